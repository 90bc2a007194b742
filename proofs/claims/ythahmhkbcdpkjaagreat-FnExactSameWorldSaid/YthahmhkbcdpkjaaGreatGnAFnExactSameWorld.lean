/-
 Contracts of functions. Conditions: as each theorem says.
-/
import Derived.Test.YthahmhkbcdpkjaaGreatBase
namespace Go.Proofs.YthahmhkbcdpkjaaGreat
open Tryz (prog)
open Nat (reduceEqDiff reduceLeDiff)
open List
open Go.AW
set_option linter.unusedVariables false
set_option linter.unusedSimpArgs false
set_option maxRecDepth 20000
def c89 : LC :=
 .q [.o [.ki 4 0], .o [.m 6 1, .m 7 0, .ll 8 7, .bb 9 .sub false 6 8, .m 1 9], .q [.o [.m 10 1, .bk 11 .lss false 10 0], .k 11 (.q [.o [.s 4 (.mov (.const (.int .i64 (-1))))], .ret]) .skip], .q [.o [.ki 5 0], .block 0
 (.loop (.q [.q [.o [.m 12 5, .m 13 0, .ll 14 13, .bb 15 .lss false 12 14], .k 15 .skip (.exit 0)], .block 1 (.q [.o [.m 18 1, .m 19 0, .m 20 5, .ia 21 1 19 20, .ln 22 21, .s 23 (.lenStr (.tmp 22)), .bb 24 .sub false 18
 23, .m 1 24], .o [.m 25 1, .bk 26 .lss false 25 0], .k 26 (.q [.o [.s 4 (.mov (.const (.int .i64 (-1))))], .ret]) .skip]), .o [.m 16 5, .bk 17 .add false 16 1, .m 5 17]]))], .o [.m 27 1, .m 4 27], .ret]
def s5_ : LF := ⟨2, 28, c89, [.tmp 4]⟩
theorem wn_ : ax_ prog Tryz.f89 s5_ := al_
def s1_ : LC :=
 .q [.o [.nl 2], .o [.m 5 0, .ll 6 5, .s 7 (.mkSlice 9 1 16 (.string ⟨#[]⟩) (.tmp 6) (.tmp 6)), .m 3 7], .q [.o [.ki 4 0], .block 0 (.loop (.q [.q [.o [.m 8 4, .m 9 0, .ll 10 9, .bb 11 .lss false 8 10], .k 11 .skip (.exit
 0)], .block 1 (.o [.m 14 3, .m 15 4, .m 16 0, .m 17 4, .ia 18 1 16 17, .ln 19 18, .ia 20 1 14 15, .st 1 20 19]), .o [.m 12 4, .bk 13 .add false 12 1, .m 4 13]]))], .o [.m 21 3, .m 2 21], .ret]
def px_ : LF := ⟨1, 22, s1_, [.tmp 2]⟩
theorem sm_ : ax_ prog Tryz.f102 px_ := al_
def qY_ : LC :=
 .q [.o [.f 4], .q [.o [.m 6 0, .ll 7 6, .m 8 1, .ll 9 8, .bb 10 .neq false 7 9], .k 10 (.q [.o [.f 4], .ret]) .skip], .q [.o [.ki 5 0], .block 0 (.loop (.q [.q [.o [.m 11 5, .m 12 0, .ll 13 12, .bb 14 .lss false 11 13],
 .k 14 .skip (.exit 0)], .block 1 (.q [.dops [.m 17 0, .m 18 5, .ia 19 1 17 18, .ln 20 19, .m 21 1, .m 22 5, .ia 23 1 21 22, .ln 24 23, .bb 25 .neq false 20 24], .k 25 (.q [.o [.f 4], .ret]) .skip]), .o [.m 15 5, .bk 16
 .add false 15 1, .m 5 16]]))], .o [.t 4], .ret]
def o0_ : LF := ⟨2, 26, qY_, [.tmp 4]⟩
theorem t7_ : ax_ prog Tryz.f119 o0_ := al_
def c88 : LC :=
 .q [.o [.bx 2 171 0, .ki 4 0], .o [.m 5 1, .fa 6 0 2, .ln 7 6, .s 8 (.lenStr (.tmp 7)), .bb 9 .sub false 5 8, .m 1 9], .q [.o [.m 10 1, .bk 11 .lss false 10 0], .k 11 (.q [.o [.s 4 (.mov (.const (.int .i64 (-1))))],
 .ret]) .skip], .o [.m 12 1, .fa 13 1 2, .ln 14 13, .s 15 (.lenStr (.tmp 14)), .bb 16 .sub false 12 15, .m 1 16], .q [.o [.m 17 1, .bk 18 .lss false 17 0], .k 18 (.q [.o [.s 4 (.mov (.const (.int .i64 (-1))))], .ret])
 .skip], .o [.fa 19 3 2, .ln 20 19, .m 21 1, .c2 22 89 20 21, .m 1 22], .q [.o [.m 23 1, .bk 24 .lss false 23 0], .k 24 (.q [.o [.s 4 (.mov (.const (.int .i64 (-1))))], .ret]) .skip], .o [.m 25 1, .m 4 25], .ret]
def uL_ : LF := ⟨2, 26, c88, [.tmp 4]⟩
theorem uY_ : ax_ prog Tryz.f88 uL_ := al_
def sQ_ : LC :=
 .q [.o [.bx 1 171 0, .s 2 (.alloc 129 (.agg #[.string ⟨#[]⟩, .string ⟨#[]⟩, .int .i64 0, .slice none 0 0]))], .o [.s 3 (.alloc 129 (.agg #[.string ⟨#[]⟩, .string ⟨#[]⟩, .int .i64 0, .slice none 0 0]))], .o [.fa 4 0 1,
 .ln 5 4, .fa 6 0 3, .st 1 6 5], .o [.fa 7 1 1, .ln 8 7, .fa 9 1 3, .st 1 9 8], .o [.fa 10 2 1, .ln 11 10, .fa 12 2 3, .st 1 12 11], .o [.fa 13 3 1, .ln 14 13, .c1 15 102 14, .fa 16 3 3, .st 1 16 15], .o [.ld 17 4 3, .st
 4 2 17], .ret]
def oL_ : LF := ⟨1, 18, sQ_, [.cell 2 (some 4)]⟩
theorem sr_ : ax_ prog Tryz.f101 oL_ := al_
def tU_ : LC :=
 .q [.o [.bx 2 129 0, .bx 3 129 1, .f 4], .q [.o [.fa 5 0 2, .ln 6 5, .fa 7 0 3, .ln 8 7, .bb 9 .neq false 6 8], .k 9 (.q [.o [.f 4], .ret]) .skip], .q [.o [.fa 10 1 2, .ln 11 10, .fa 12 1 3, .ln 13 12, .bb 14 .neq false
 11 13], .k 14 (.q [.o [.f 4], .ret]) .skip], .q [.o [.fa 15 2 2, .ln 16 15, .fa 17 2 3, .ln 18 17, .bb 19 .neq false 16 18], .k 19 (.q [.o [.f 4], .ret]) .skip], .q [.o [.fa 20 3 2, .ln 21 20, .fa 22 3 3, .ln 23 22, .c2
 24 119 21 23, .nt 25 24], .k 25 (.q [.o [.f 4], .ret]) .skip], .o [.t 4], .ret]
def o4_ : LF := ⟨2, 26, tU_, [.tmp 4]⟩
theorem tR_ : ax_ prog Tryz.f118 o4_ := al_
def sn_ : LC :=
 .q [.o [.bx 2 115 0, .ki 4 0], .o [.m 5 1, .fa 6 1 2, .ln 7 6, .s 8 (.lenStr (.tmp 7)), .bb 9 .sub false 5 8, .m 1 9], .q [.o [.m 10 1, .bk 11 .lss false 10 0], .k 11 (.q [.o [.s 4 (.mov (.const (.int .i64 (-1))))],
 .ret]) .skip], .o [.fa 12 2 2, .ln 13 12, .m 14 1, .c2 15 89 13 14, .m 1 15], .q [.o [.m 16 1, .bk 17 .lss false 16 0], .k 17 (.q [.o [.s 4 (.mov (.const (.int .i64 (-1))))], .ret]) .skip], .o [.m 18 1, .m 4 18], .ret]
def oU_ : LF := ⟨2, 19, sn_, [.tmp 4]⟩
theorem uq_ : ax_ prog Tryz.f131 oU_ := al_
def rN_ : LC :=
 .q [.o [.bx 1 115 0, .s 2 (.alloc 80 (.agg #[.bool false, .string ⟨#[]⟩, .slice none 0 0]))], .o [.s 3 (.alloc 80 (.agg #[.bool false, .string ⟨#[]⟩, .slice none 0 0]))], .o [.fa 4 0 1, .ln 5 4, .fa 6 0 3, .st 1 6 5], .o
 [.fa 7 1 1, .ln 8 7, .fa 9 1 3, .st 1 9 8], .o [.fa 10 2 1, .ln 11 10, .c1 12 102 11, .fa 13 2 3, .st 1 13 12], .o [.ld 14 3 3, .st 3 2 14], .ret]
def pP_ : LF := ⟨1, 15, rN_, [.cell 2 (some 3)]⟩
theorem rH_ : ax_ prog Tryz.f140 pP_ := al_
def sM_ : LC :=
 .q [.o [.bx 2 80 0, .bx 3 80 1, .f 4], .q [.o [.fa 5 0 2, .ln 6 5, .fa 7 0 3, .ln 8 7, .bb 9 .neq true 6 8], .k 9 (.q [.o [.f 4], .ret]) .skip], .q [.o [.fa 10 1 2, .ln 11 10, .fa 12 1 3, .ln 13 12, .bb 14 .neq false 11
 13], .k 14 (.q [.o [.f 4], .ret]) .skip], .q [.o [.fa 15 2 2, .ln 16 15, .fa 17 2 3, .ln 18 17, .c2 19 119 16 18, .nt 20 19], .k 20 (.q [.o [.f 4], .ret]) .skip], .o [.t 4], .ret]
def pa_ : LF := ⟨2, 21, sM_, [.tmp 4]⟩
theorem uP_ : ax_ prog Tryz.f152 pa_ := al_
def tq_ : LC :=
 .q [.o [.ki 4 0], .o [.m 6 1, .m 7 0, .ll 8 7, .bb 9 .sub false 6 8, .m 1 9], .q [.o [.m 10 1, .bk 11 .lss false 10 0], .k 11 (.q [.o [.s 4 (.mov (.const (.int .i64 (-1))))], .ret]) .skip], .q [.o [.ki 5 0], .block 0
 (.loop (.q [.q [.o [.m 12 5, .m 13 0, .ll 14 13, .bb 15 .lss false 12 14], .k 15 .skip (.exit 0)], .block 1 (.q [.o [.m 18 0, .m 19 5, .ia 20 3 18 19, .ld 21 3 20, .m 22 1, .c2 23 131 21 22, .m 1 23], .o [.m 24 1, .bk 25
 .lss false 24 0], .k 25 (.q [.o [.s 4 (.mov (.const (.int .i64 (-1))))], .ret]) .skip]), .o [.m 16 5, .bk 17 .add false 16 1, .m 5 17]]))], .o [.m 26 1, .m 4 26], .ret]
def oV_ : LF := ⟨2, 27, tq_, [.tmp 4]⟩
theorem qO_ : ax_ prog Tryz.f126 oV_ := al_
def qV_ : LC :=
 .q [.o [.nl 2], .o [.m 5 0, .ll 6 5, .s 7 (.mkSlice 80 3 48 (.agg #[.bool false, .string ⟨#[]⟩, .slice none 0 0]) (.tmp 6) (.tmp 6)), .m 3 7], .q [.o [.ki 4 0], .block 0 (.loop (.q [.q [.o [.m 8 4, .m 9 0, .ll 10 9, .bb
 11 .lss false 8 10], .k 11 .skip (.exit 0)], .block 1 (.o [.m 14 3, .m 15 4, .m 16 0, .m 17 4, .ia 18 3 16 17, .ld 19 3 18, .c1 20 140 19, .ia 21 3 14 15, .st 3 21 20]), .o [.m 12 4, .bk 13 .add false 12 1, .m 4 13]]))],
 .o [.m 22 3, .m 2 22], .ret]
def o9_ : LF := ⟨1, 23, qV_, [.tmp 2]⟩
theorem qU_ : ax_ prog Tryz.f135 o9_ := al_
def q4_ : LC :=
 .q [.o [.f 4], .q [.o [.m 6 0, .ll 7 6, .m 8 1, .ll 9 8, .bb 10 .neq false 7 9], .k 10 (.q [.o [.f 4], .ret]) .skip], .q [.o [.ki 5 0], .block 0 (.loop (.q [.q [.o [.m 11 5, .m 12 0, .ll 13 12, .bb 14 .lss false 11 13],
 .k 14 .skip (.exit 0)], .block 1 (.q [.dops [.m 17 0, .m 18 5, .ia 19 3 17 18, .ld 20 3 19, .m 21 1, .m 22 5, .ia 23 3 21 22, .ld 24 3 23, .c2 25 152 20 24, .nt 26 25], .k 26 (.q [.o [.f 4], .ret]) .skip]), .o [.m 15 5,
 .bk 16 .add false 15 1, .m 5 16]]))], .o [.t 4], .ret]
def pg_ : LF := ⟨2, 27, q4_, [.tmp 4]⟩
theorem uk_ : ax_ prog Tryz.f147 pg_ := al_
def t9_ : LC :=
 .q [.o [.bx 2 236 0, .ki 4 0], .o [.m 5 1, .fa 6 1 2, .ln 7 6, .s 8 (.lenStr (.tmp 7)), .bb 9 .sub false 5 8, .m 1 9], .q [.o [.m 10 1, .bk 11 .lss false 10 0], .k 11 (.q [.o [.s 4 (.mov (.const (.int .i64 (-1))))],
 .ret]) .skip], .o [.m 12 1, .m 4 12], .ret]
def pc_ : LF := ⟨2, 13, t9_, [.tmp 4]⟩
theorem sf_ : ax_ prog Tryz.f154 pc_ := al_
def qS_ : LC :=
 .q [.o [.bx 1 236 0, .s 2 (.alloc 198 (.agg #[.bool false, .string ⟨#[]⟩]))], .o [.s 3 (.alloc 198 (.agg #[.bool false, .string ⟨#[]⟩]))], .o [.fa 4 0 1, .ln 5 4, .fa 6 0 3, .st 1 6 5], .o [.fa 7 1 1, .ln 8 7, .fa 9 1 3,
 .st 1 9 8], .o [.ld 10 2 3, .st 2 2 10], .ret]
def pF_ : LF := ⟨1, 11, qS_, [.cell 2 (some 2)]⟩
theorem rk_ : ax_ prog Tryz.f161 pF_ := al_
def sD_ : LC :=
 .q [.o [.bx 2 198 0, .bx 3 198 1, .f 4], .q [.o [.fa 5 0 2, .ln 6 5, .fa 7 0 3, .ln 8 7, .bb 9 .neq true 6 8], .k 9 (.q [.o [.f 4], .ret]) .skip], .q [.o [.fa 10 1 2, .ln 11 10, .fa 12 1 3, .ln 13 12, .bb 14 .neq false
 11 13], .k 14 (.q [.o [.f 4], .ret]) .skip], .o [.t 4], .ret]
def pw_ : LF := ⟨2, 15, sD_, [.tmp 4]⟩
theorem q0_ : ax_ prog Tryz.f167 pw_ := al_
def qF_ : LC :=
 .q [.o [.ki 4 0], .o [.m 6 1, .m 7 0, .ll 8 7, .bb 9 .sub false 6 8, .m 1 9], .q [.o [.m 10 1, .bk 11 .lss false 10 0], .k 11 (.q [.o [.s 4 (.mov (.const (.int .i64 (-1))))], .ret]) .skip], .q [.o [.ki 5 0], .block 0
 (.loop (.q [.q [.o [.m 12 5, .m 13 0, .ll 14 13, .bb 15 .lss false 12 14], .k 15 .skip (.exit 0)], .block 1 (.q [.o [.m 18 0, .m 19 5, .ia 20 2 18 19, .ld 21 2 20, .m 22 1, .c2 23 154 21 22, .m 1 23], .o [.m 24 1, .bk 25
 .lss false 24 0], .k 25 (.q [.o [.s 4 (.mov (.const (.int .i64 (-1))))], .ret]) .skip]), .o [.m 16 5, .bk 17 .add false 16 1, .m 5 17]]))], .o [.m 26 1, .m 4 26], .ret]
def pe_ : LF := ⟨2, 27, qF_, [.tmp 4]⟩
theorem uC_ : ax_ prog Tryz.f127 pe_ := al_
def sa_ : LC :=
 .q [.o [.nl 2], .o [.m 5 0, .ll 6 5, .s 7 (.mkSlice 198 2 24 (.agg #[.bool false, .string ⟨#[]⟩]) (.tmp 6) (.tmp 6)), .m 3 7], .q [.o [.ki 4 0], .block 0 (.loop (.q [.q [.o [.m 8 4, .m 9 0, .ll 10 9, .bb 11 .lss false 8
 10], .k 11 .skip (.exit 0)], .block 1 (.o [.m 14 3, .m 15 4, .m 16 0, .m 17 4, .ia 18 2 16 17, .ld 19 2 18, .c1 20 161 19, .ia 21 2 14 15, .st 2 21 20]), .o [.m 12 4, .bk 13 .add false 12 1, .m 4 13]]))], .o [.m 22 3, .m
 2 22], .ret]
def oM_ : LF := ⟨1, 23, sa_, [.tmp 2]⟩
theorem sJ_ : ax_ prog Tryz.f136 oM_ := al_
def tr_ : LC :=
 .q [.o [.f 4], .q [.o [.m 6 0, .ll 7 6, .m 8 1, .ll 9 8, .bb 10 .neq false 7 9], .k 10 (.q [.o [.f 4], .ret]) .skip], .q [.o [.ki 5 0], .block 0 (.loop (.q [.q [.o [.m 11 5, .m 12 0, .ll 13 12, .bb 14 .lss false 11 13],
 .k 14 .skip (.exit 0)], .block 1 (.q [.dops [.m 17 0, .m 18 5, .ia 19 2 17 18, .ld 20 2 19, .m 21 1, .m 22 5, .ia 23 2 21 22, .ld 24 2 23, .c2 25 167 20 24, .nt 26 25], .k 26 (.q [.o [.f 4], .ret]) .skip]), .o [.m 15 5,
 .bk 16 .add false 15 1, .m 5 16]]))], .o [.t 4], .ret]
def o5_ : LF := ⟨2, 27, tr_, [.tmp 4]⟩
theorem rE_ : ax_ prog Tryz.f148 o5_ := al_
def r6_ : LC :=
 .q [.o [.bx 2 238 0, .ki 4 0], .o [.m 5 1, .fa 6 0 2, .ln 7 6, .s 8 (.lenStr (.tmp 7)), .bb 9 .sub false 5 8, .m 1 9], .q [.o [.m 10 1, .bk 11 .lss false 10 0], .k 11 (.q [.o [.s 4 (.mov (.const (.int .i64 (-1))))],
 .ret]) .skip], .o [.m 12 1, .m 4 12], .ret]
def o7_ : LF := ⟨2, 13, r6_, [.tmp 4]⟩
theorem to_ : ax_ prog Tryz.f155 o7_ := al_
def sR_ : LC :=
 .q [.o [.bx 1 238 0, .s 2 (.alloc 201 (.agg #[.string ⟨#[]⟩, .int .i64 0, .int .i64 0, .bool false, .int .i64 0, .int .i64 0]))], .o [.s 3 (.alloc 201 (.agg #[.string ⟨#[]⟩, .int .i64 0, .int .i64 0, .bool false, .int
 .i64 0, .int .i64 0]))], .o [.fa 4 0 1, .ln 5 4, .fa 6 0 3, .st 1 6 5], .o [.fa 7 1 1, .ln 8 7, .fa 9 1 3, .st 1 9 8], .o [.fa 10 2 1, .ln 11 10, .fa 12 2 3, .st 1 12 11], .o [.fa 13 3 1, .ln 14 13, .fa 15 3 3, .st 1 15
 14], .o [.fa 16 4 1, .ln 17 16, .fa 18 4 3, .st 1 18 17], .o [.fa 19 5 1, .ln 20 19, .fa 21 5 3, .st 1 21 20], .o [.ld 22 6 3, .st 6 2 22], .ret]
def oZ_ : LF := ⟨1, 23, sR_, [.cell 2 (some 6)]⟩
theorem s2_ : ax_ prog Tryz.f162 oZ_ := al_
def qW_ : LC :=
 .q [.o [.bx 2 201 0, .bx 3 201 1, .f 4], .q [.o [.fa 5 0 2, .ln 6 5, .fa 7 0 3, .ln 8 7, .bb 9 .neq false 6 8], .k 9 (.q [.o [.f 4], .ret]) .skip], .q [.o [.fa 10 1 2, .ln 11 10, .fa 12 1 3, .ln 13 12, .bb 14 .neq false
 11 13], .k 14 (.q [.o [.f 4], .ret]) .skip], .q [.o [.fa 15 2 2, .ln 16 15, .fa 17 2 3, .ln 18 17, .bb 19 .neq false 16 18], .k 19 (.q [.o [.f 4], .ret]) .skip], .q [.o [.fa 20 3 2, .ln 21 20, .fa 22 3 3, .ln 23 22, .bb
 24 .neq true 21 23], .k 24 (.q [.o [.f 4], .ret]) .skip], .q [.o [.fa 25 4 2, .ln 26 25, .fa 27 4 3, .ln 28 27, .bb 29 .neq false 26 28], .k 29 (.q [.o [.f 4], .ret]) .skip], .q [.o [.fa 30 5 2, .ln 31 30, .fa 32 5 3,
 .ln 33 32, .bb 34 .neq false 31 33], .k 34 (.q [.o [.f 4], .ret]) .skip], .o [.t 4], .ret]
def pA_ : LF := ⟨2, 35, qW_, [.tmp 4]⟩
theorem tY_ : ax_ prog Tryz.f168 pA_ := al_
def st_ : LC :=
 .q [.o [.ki 4 0], .o [.m 6 1, .m 7 0, .ll 8 7, .bb 9 .sub false 6 8, .m 1 9], .q [.o [.m 10 1, .bk 11 .lss false 10 0], .k 11 (.q [.o [.s 4 (.mov (.const (.int .i64 (-1))))], .ret]) .skip], .q [.o [.ki 5 0], .block 0
 (.loop (.q [.q [.o [.m 12 5, .m 13 0, .ll 14 13, .bb 15 .lss false 12 14], .k 15 .skip (.exit 0)], .block 1 (.q [.o [.m 18 0, .m 19 5, .ia 20 6 18 19, .ld 21 6 20, .m 22 1, .c2 23 155 21 22, .m 1 23], .o [.m 24 1, .bk 25
 .lss false 24 0], .k 25 (.q [.o [.s 4 (.mov (.const (.int .i64 (-1))))], .ret]) .skip]), .o [.m 16 5, .bk 17 .add false 16 1, .m 5 17]]))], .o [.m 26 1, .m 4 26], .ret]
def oH_ : LF := ⟨2, 27, st_, [.tmp 4]⟩
theorem rI_ : ax_ prog Tryz.f128 oH_ := al_
def tD_ : LC :=
 .q [.o [.nl 2], .o [.m 5 0, .ll 6 5, .s 7 (.mkSlice 201 6 56 (.agg #[.string ⟨#[]⟩, .int .i64 0, .int .i64 0, .bool false, .int .i64 0, .int .i64 0]) (.tmp 6) (.tmp 6)), .m 3 7], .q [.o [.ki 4 0], .block 0 (.loop (.q [.q
 [.o [.m 8 4, .m 9 0, .ll 10 9, .bb 11 .lss false 8 10], .k 11 .skip (.exit 0)], .block 1 (.o [.m 14 3, .m 15 4, .m 16 0, .m 17 4, .ia 18 6 16 17, .ld 19 6 18, .c1 20 162 19, .ia 21 6 14 15, .st 6 21 20]), .o [.m 12 4,
 .bk 13 .add false 12 1, .m 4 13]]))], .o [.m 22 3, .m 2 22], .ret]
def pf_ : LF := ⟨1, 23, tD_, [.tmp 2]⟩
theorem r0_ : ax_ prog Tryz.f137 pf_ := al_
def tL_ : LC :=
 .q [.o [.f 4], .q [.o [.m 6 0, .ll 7 6, .m 8 1, .ll 9 8, .bb 10 .neq false 7 9], .k 10 (.q [.o [.f 4], .ret]) .skip], .q [.o [.ki 5 0], .block 0 (.loop (.q [.q [.o [.m 11 5, .m 12 0, .ll 13 12, .bb 14 .lss false 11 13],
 .k 14 .skip (.exit 0)], .block 1 (.q [.dops [.m 17 0, .m 18 5, .ia 19 6 17 18, .ld 20 6 19, .m 21 1, .m 22 5, .ia 23 6 21 22, .ld 24 6 23, .c2 25 168 20 24, .nt 26 25], .k 26 (.q [.o [.f 4], .ret]) .skip]), .o [.m 15 5,
 .bk 16 .add false 15 1, .m 5 16]]))], .o [.t 4], .ret]
def pB_ : LF := ⟨2, 27, tL_, [.tmp 4]⟩
theorem ro_ : ax_ prog Tryz.f149 pB_ := al_
def um_ : LC :=
 .q [.o [.bx 2 240 0, .ki 4 0], .o [.m 5 1, .fa 6 7 2, .ln 7 6, .s 8 (.lenStr (.tmp 7)), .bb 9 .sub false 5 8, .m 1 9], .q [.o [.m 10 1, .bk 11 .lss false 10 0], .k 11 (.q [.o [.s 4 (.mov (.const (.int .i64 (-1))))],
 .ret]) .skip], .o [.m 12 1, .fa 13 8 2, .ln 14 13, .s 15 (.lenStr (.tmp 14)), .bb 16 .sub false 12 15, .m 1 16], .q [.o [.m 17 1, .bk 18 .lss false 17 0], .k 18 (.q [.o [.s 4 (.mov (.const (.int .i64 (-1))))], .ret])
 .skip], .o [.m 19 1, .m 4 19], .ret]
def pS_ : LF := ⟨2, 20, um_, [.tmp 4]⟩
theorem t3_ : ax_ prog Tryz.f156 pS_ := al_
def uN_ : LC :=
 .q [.o [.bx 1 240 0, .s 2 (.alloc 204 (.agg #[.int .i64 0, .bool false, .bool false, .int .i64 0, .int .i64 0, .int .i64 0, .int .i64 0, .string ⟨#[]⟩, .string ⟨#[]⟩]))], .o [.s 3 (.alloc 204 (.agg #[.int .i64 0, .bool
 false, .bool false, .int .i64 0, .int .i64 0, .int .i64 0, .int .i64 0, .string ⟨#[]⟩, .string ⟨#[]⟩]))], .o [.fa 4 0 1, .ln 5 4, .fa 6 0 3, .st 1 6 5], .o [.fa 7 1 1, .ln 8 7, .fa 9 1 3, .st 1 9 8], .o [.fa 10 2 1, .ln
 11 10, .fa 12 2 3, .st 1 12 11], .o [.fa 13 3 1, .ln 14 13, .fa 15 3 3, .st 1 15 14], .o [.fa 16 4 1, .ln 17 16, .fa 18 4 3, .st 1 18 17], .o [.fa 19 5 1, .ln 20 19, .fa 21 5 3, .st 1 21 20], .o [.fa 22 6 1, .ln 23 22,
 .fa 24 6 3, .st 1 24 23], .o [.fa 25 7 1, .ln 26 25, .fa 27 7 3, .st 1 27 26], .o [.fa 28 8 1, .ln 29 28, .fa 30 8 3, .st 1 30 29], .o [.ld 31 9 3, .st 9 2 31], .ret]
def oI_ : LF := ⟨1, 32, uN_, [.cell 2 (some 9)]⟩
theorem tJ_ : ax_ prog Tryz.f163 oI_ := al_
def uI_ : LC :=
 .q [.o [.bx 2 204 0, .bx 3 204 1, .f 4], .q [.o [.fa 5 0 2, .ln 6 5, .fa 7 0 3, .ln 8 7, .bb 9 .neq false 6 8], .k 9 (.q [.o [.f 4], .ret]) .skip], .q [.o [.fa 10 1 2, .ln 11 10, .fa 12 1 3, .ln 13 12, .bb 14 .neq true
 11 13], .k 14 (.q [.o [.f 4], .ret]) .skip], .q [.o [.fa 15 2 2, .ln 16 15, .fa 17 2 3, .ln 18 17, .bb 19 .neq true 16 18], .k 19 (.q [.o [.f 4], .ret]) .skip], .q [.o [.fa 20 3 2, .ln 21 20, .fa 22 3 3, .ln 23 22, .bb
 24 .neq false 21 23], .k 24 (.q [.o [.f 4], .ret]) .skip], .q [.o [.fa 25 4 2, .ln 26 25, .fa 27 4 3, .ln 28 27, .bb 29 .neq false 26 28], .k 29 (.q [.o [.f 4], .ret]) .skip], .q [.o [.fa 30 5 2, .ln 31 30, .fa 32 5 3,
 .ln 33 32, .bb 34 .neq false 31 33], .k 34 (.q [.o [.f 4], .ret]) .skip], .q [.o [.fa 35 6 2, .ln 36 35, .fa 37 6 3, .ln 38 37, .bb 39 .neq false 36 38], .k 39 (.q [.o [.f 4], .ret]) .skip], .q [.o [.fa 40 7 2, .ln 41
 40, .fa 42 7 3, .ln 43 42, .bb 44 .neq false 41 43], .k 44 (.q [.o [.f 4], .ret]) .skip], .q [.o [.fa 45 8 2, .ln 46 45, .fa 47 8 3, .ln 48 47, .bb 49 .neq false 46 48], .k 49 (.q [.o [.f 4], .ret]) .skip], .o [.t 4],
 .ret]
def pl_ : LF := ⟨2, 50, uI_, [.tmp 4]⟩
theorem qE_ : ax_ prog Tryz.f169 pl_ := al_
def sZ_ : LC :=
 .q [.o [.ki 4 0], .o [.m 6 1, .m 7 0, .ll 8 7, .bb 9 .sub false 6 8, .m 1 9], .q [.o [.m 10 1, .bk 11 .lss false 10 0], .k 11 (.q [.o [.s 4 (.mov (.const (.int .i64 (-1))))], .ret]) .skip], .q [.o [.ki 5 0], .block 0
 (.loop (.q [.q [.o [.m 12 5, .m 13 0, .ll 14 13, .bb 15 .lss false 12 14], .k 15 .skip (.exit 0)], .block 1 (.q [.o [.m 18 0, .m 19 5, .ia 20 9 18 19, .ld 21 9 20, .m 22 1, .c2 23 156 21 22, .m 1 23], .o [.m 24 1, .bk 25
 .lss false 24 0], .k 25 (.q [.o [.s 4 (.mov (.const (.int .i64 (-1))))], .ret]) .skip]), .o [.m 16 5, .bk 17 .add false 16 1, .m 5 17]]))], .o [.m 26 1, .m 4 26], .ret]
def pR_ : LF := ⟨2, 27, sZ_, [.tmp 4]⟩
theorem sg_ : ax_ prog Tryz.f129 pR_ := al_
def sh_ : LC :=
 .q [.o [.nl 2], .o [.m 5 0, .ll 6 5, .s 7 (.mkSlice 204 9 80 (.agg #[.int .i64 0, .bool false, .bool false, .int .i64 0, .int .i64 0, .int .i64 0, .int .i64 0, .string ⟨#[]⟩, .string ⟨#[]⟩]) (.tmp 6) (.tmp 6)), .m 3 7],
 .q [.o [.ki 4 0], .block 0 (.loop (.q [.q [.o [.m 8 4, .m 9 0, .ll 10 9, .bb 11 .lss false 8 10], .k 11 .skip (.exit 0)], .block 1 (.o [.m 14 3, .m 15 4, .m 16 0, .m 17 4, .ia 18 9 16 17, .ld 19 9 18, .c1 20 163 19, .ia
 21 9 14 15, .st 9 21 20]), .o [.m 12 4, .bk 13 .add false 12 1, .m 4 13]]))], .o [.m 22 3, .m 2 22], .ret]
def pO_ : LF := ⟨1, 23, sh_, [.tmp 2]⟩
theorem tB_ : ax_ prog Tryz.f138 pO_ := al_
def tQ_ : LC :=
 .q [.o [.f 4], .q [.o [.m 6 0, .ll 7 6, .m 8 1, .ll 9 8, .bb 10 .neq false 7 9], .k 10 (.q [.o [.f 4], .ret]) .skip], .q [.o [.ki 5 0], .block 0 (.loop (.q [.q [.o [.m 11 5, .m 12 0, .ll 13 12, .bb 14 .lss false 11 13],
 .k 14 .skip (.exit 0)], .block 1 (.q [.dops [.m 17 0, .m 18 5, .ia 19 9 17 18, .ld 20 9 19, .m 21 1, .m 22 5, .ia 23 9 21 22, .ld 24 9 23, .c2 25 169 20 24, .nt 26 25], .k 26 (.q [.o [.f 4], .ret]) .skip]), .o [.m 15 5,
 .bk 16 .add false 15 1, .m 5 16]]))], .o [.t 4], .ret]
def oG_ : LF := ⟨2, 27, tQ_, [.tmp 4]⟩
theorem s0_ : ax_ prog Tryz.f150 oG_ := al_
def tH_ : LC :=
 .q [.o [.bx 2 256 0, .ki 4 0], .o [.m 5 1, .fa 6 0 2, .ln 7 6, .s 8 (.lenStr (.tmp 7)), .bb 9 .sub false 5 8, .m 1 9], .q [.o [.m 10 1, .bk 11 .lss false 10 0], .k 11 (.q [.o [.s 4 (.mov (.const (.int .i64 (-1))))],
 .ret]) .skip], .o [.m 12 1, .m 4 12], .ret]
def oS_ : LF := ⟨2, 13, tH_, [.tmp 4]⟩
theorem tP_ : ax_ prog Tryz.f173 oS_ := al_
def uX_ : LC :=
 .q [.o [.bx 1 256 0, .s 2 (.alloc 230 (.agg #[.string ⟨#[]⟩, .int .i64 0]))], .o [.s 3 (.alloc 230 (.agg #[.string ⟨#[]⟩, .int .i64 0]))], .o [.fa 4 0 1, .ln 5 4, .fa 6 0 3, .st 1 6 5], .o [.fa 7 1 1, .ln 8 7, .fa 9 1 3,
 .st 1 9 8], .o [.ld 10 2 3, .st 2 2 10], .ret]
def oP_ : LF := ⟨1, 11, uX_, [.cell 2 (some 2)]⟩
theorem ur_ : ax_ prog Tryz.f176 oP_ := al_
def rz_ : LC :=
 .q [.o [.bx 2 230 0, .bx 3 230 1, .f 4], .q [.o [.fa 5 0 2, .ln 6 5, .fa 7 0 3, .ln 8 7, .bb 9 .neq false 6 8], .k 9 (.q [.o [.f 4], .ret]) .skip], .q [.o [.fa 10 1 2, .ln 11 10, .fa 12 1 3, .ln 13 12, .bb 14 .neq false
 11 13], .k 14 (.q [.o [.f 4], .ret]) .skip], .o [.t 4], .ret]
def pi_ : LF := ⟨2, 15, rz_, [.tmp 4]⟩
theorem r2_ : ax_ prog Tryz.f179 pi_ := al_
def sy_ : LC :=
 .q [.o [.ki 4 0], .o [.m 6 1, .m 7 0, .ll 8 7, .bb 9 .sub false 6 8, .m 1 9], .q [.o [.m 10 1, .bk 11 .lss false 10 0], .k 11 (.q [.o [.s 4 (.mov (.const (.int .i64 (-1))))], .ret]) .skip], .q [.o [.ki 5 0], .block 0
 (.loop (.q [.q [.o [.m 12 5, .m 13 0, .ll 14 13, .bb 15 .lss false 12 14], .k 15 .skip (.exit 0)], .block 1 (.q [.o [.m 18 0, .m 19 5, .ia 20 2 18 19, .ld 21 2 20, .m 22 1, .c2 23 173 21 22, .m 1 23], .o [.m 24 1, .bk 25
 .lss false 24 0], .k 25 (.q [.o [.s 4 (.mov (.const (.int .i64 (-1))))], .ret]) .skip]), .o [.m 16 5, .bk 17 .add false 16 1, .m 5 17]]))], .o [.m 26 1, .m 4 26], .ret]
def pE_ : LF := ⟨2, 27, sy_, [.tmp 4]⟩
theorem un_ : ax_ prog Tryz.f157 pE_ := al_
def rr_ : LC :=
 .q [.o [.nl 2], .o [.m 5 0, .ll 6 5, .s 7 (.mkSlice 230 2 24 (.agg #[.string ⟨#[]⟩, .int .i64 0]) (.tmp 6) (.tmp 6)), .m 3 7], .q [.o [.ki 4 0], .block 0 (.loop (.q [.q [.o [.m 8 4, .m 9 0, .ll 10 9, .bb 11 .lss false 8
 10], .k 11 .skip (.exit 0)], .block 1 (.o [.m 14 3, .m 15 4, .m 16 0, .m 17 4, .ia 18 2 16 17, .ld 19 2 18, .c1 20 176 19, .ia 21 2 14 15, .st 2 21 20]), .o [.m 12 4, .bk 13 .add false 12 1, .m 4 13]]))], .o [.m 22 3, .m
 2 22], .ret]
def pn_ : LF := ⟨1, 23, rr_, [.tmp 2]⟩
theorem rF_ : ax_ prog Tryz.f164 pn_ := al_
def uJ_ : LC :=
 .q [.o [.f 4], .q [.o [.m 6 0, .ll 7 6, .m 8 1, .ll 9 8, .bb 10 .neq false 7 9], .k 10 (.q [.o [.f 4], .ret]) .skip], .q [.o [.ki 5 0], .block 0 (.loop (.q [.q [.o [.m 11 5, .m 12 0, .ll 13 12, .bb 14 .lss false 11 13],
 .k 14 .skip (.exit 0)], .block 1 (.q [.dops [.m 17 0, .m 18 5, .ia 19 2 17 18, .ld 20 2 19, .m 21 1, .m 22 5, .ia 23 2 21 22, .ld 24 2 23, .c2 25 179 20 24, .nt 26 25], .k 26 (.q [.o [.f 4], .ret]) .skip]), .o [.m 15 5,
 .bk 16 .add false 15 1, .m 5 16]]))], .o [.t 4], .ret]
def pd_ : LF := ⟨2, 27, uJ_, [.tmp 4]⟩
theorem qZ_ : ax_ prog Tryz.f170 pd_ := al_
def c90 : LC :=
 .q [.o [.bx 2 174 0, .ki 4 0], .o [.m 5 1, .fa 6 0 2, .ln 7 6, .s 8 (.lenStr (.tmp 7)), .bb 9 .sub false 5 8, .m 1 9], .q [.o [.m 10 1, .bk 11 .lss false 10 0], .k 11 (.q [.o [.s 4 (.mov (.const (.int .i64 (-1))))],
 .ret]) .skip], .o [.fa 12 1 2, .ln 13 12, .m 14 1, .c2 15 89 13 14, .m 1 15], .q [.o [.m 16 1, .bk 17 .lss false 16 0], .k 17 (.q [.o [.s 4 (.mov (.const (.int .i64 (-1))))], .ret]) .skip], .o [.m 18 1, .fa 19 2 2, .ln
 20 19, .s 21 (.lenStr (.tmp 20)), .bb 22 .sub false 18 21, .m 1 22], .q [.o [.m 23 1, .bk 24 .lss false 23 0], .k 24 (.q [.o [.s 4 (.mov (.const (.int .i64 (-1))))], .ret]) .skip], .o [.m 25 1, .m 4 25], .ret]
def sV_ : LF := ⟨2, 26, c90, [.tmp 4]⟩
theorem wq_ : ax_ prog Tryz.f90 sV_ := al_
def tw_ : LC :=
 .q [.o [.bx 1 174 0, .s 2 (.alloc 134 (.agg #[.string ⟨#[]⟩, .slice none 0 0, .string ⟨#[]⟩]))], .o [.s 3 (.alloc 134 (.agg #[.string ⟨#[]⟩, .slice none 0 0, .string ⟨#[]⟩]))], .o [.fa 4 0 1, .ln 5 4, .fa 6 0 3, .st 1 6
 5], .o [.fa 7 1 1, .ln 8 7, .c1 9 102 8, .fa 10 1 3, .st 1 10 9], .o [.fa 11 2 1, .ln 12 11, .fa 13 2 3, .st 1 13 12], .o [.ld 14 3 3, .st 3 2 14], .ret]
def oW_ : LF := ⟨1, 15, tw_, [.cell 2 (some 3)]⟩
theorem qK_ : ax_ prog Tryz.f103 oW_ := al_
def q9_ : LC :=
 .q [.o [.bx 2 134 0, .bx 3 134 1, .f 4], .q [.o [.fa 5 0 2, .ln 6 5, .fa 7 0 3, .ln 8 7, .bb 9 .neq false 6 8], .k 9 (.q [.o [.f 4], .ret]) .skip], .q [.o [.fa 10 1 2, .ln 11 10, .fa 12 1 3, .ln 13 12, .c2 14 119 11 13,
 .nt 15 14], .k 15 (.q [.o [.f 4], .ret]) .skip], .q [.o [.fa 16 2 2, .ln 17 16, .fa 18 2 3, .ln 19 18, .bb 20 .neq false 17 19], .k 20 (.q [.o [.f 4], .ret]) .skip], .o [.t 4], .ret]
def oK_ : LF := ⟨2, 21, q9_, [.tmp 4]⟩
theorem sW_ : ax_ prog Tryz.f120 oK_ := al_
def c43 : LC :=
 .q [.o [.ki 4 0], .o [.m 6 1, .m 7 0, .ll 8 7, .bb 9 .sub false 6 8, .m 1 9], .q [.o [.m 10 1, .bk 11 .lss false 10 0], .k 11 (.q [.o [.s 4 (.mov (.const (.int .i64 (-1))))], .ret]) .skip], .q [.o [.ki 5 0], .block 0
 (.loop (.q [.q [.o [.m 12 5, .m 13 0, .ll 14 13, .bb 15 .lss false 12 14], .k 15 .skip (.exit 0)], .block 1 (.q [.o [.m 18 0, .m 19 5, .ia 20 3 18 19, .ld 21 3 20, .m 22 1, .c2 23 90 21 22, .m 1 23], .o [.m 24 1, .bk 25
 .lss false 24 0], .k 25 (.q [.o [.s 4 (.mov (.const (.int .i64 (-1))))], .ret]) .skip]), .o [.m 16 5, .bk 17 .add false 16 1, .m 5 17]]))], .o [.m 26 1, .m 4 26], .ret]
def so_ : LF := ⟨2, 27, c43, [.tmp 4]⟩
theorem vN_ : ax_ prog Tryz.f43 so_ := al_
def c57 : LC :=
 .q [.o [.nl 2], .o [.m 5 0, .ll 6 5, .s 7 (.mkSlice 134 3 56 (.agg #[.string ⟨#[]⟩, .slice none 0 0, .string ⟨#[]⟩]) (.tmp 6) (.tmp 6)), .m 3 7], .q [.o [.ki 4 0], .block 0 (.loop (.q [.q [.o [.m 8 4, .m 9 0, .ll 10 9,
 .bb 11 .lss false 8 10], .k 11 .skip (.exit 0)], .block 1 (.o [.m 14 3, .m 15 4, .m 16 0, .m 17 4, .ia 18 3 16 17, .ld 19 3 18, .c1 20 103 19, .ia 21 3 14 15, .st 3 21 20]), .o [.m 12 4, .bk 13 .add false 12 1, .m 4
 13]]))], .o [.m 22 3, .m 2 22], .ret]
def qD_ : LF := ⟨1, 23, c57, [.tmp 2]⟩
theorem vP_ : ax_ prog Tryz.f57 qD_ := al_
def c82 : LC :=
 .q [.o [.f 4], .q [.o [.m 6 0, .ll 7 6, .m 8 1, .ll 9 8, .bb 10 .neq false 7 9], .k 10 (.q [.o [.f 4], .ret]) .skip], .q [.o [.ki 5 0], .block 0 (.loop (.q [.q [.o [.m 11 5, .m 12 0, .ll 13 12, .bb 14 .lss false 11 13],
 .k 14 .skip (.exit 0)], .block 1 (.q [.dops [.m 17 0, .m 18 5, .ia 19 3 17 18, .ld 20 3 19, .m 21 1, .m 22 5, .ia 23 3 21 22, .ld 24 3 23, .c2 25 120 20 24, .nt 26 25], .k 26 (.q [.o [.f 4], .ret]) .skip]), .o [.m 15 5,
 .bk 16 .add false 15 1, .m 5 16]]))], .o [.t 4], .ret]
def rh_ : LF := ⟨2, 27, c82, [.tmp 4]⟩
theorem vy_ : ax_ prog Tryz.f82 rh_ := al_
def c11 : LC :=
 .q [.o [.bx 2 29 0, .ki 4 0], .o [.fa 5 0 2, .ln 6 5, .m 7 1, .c2 8 43 6 7, .m 1 8], .q [.o [.m 9 1, .bk 10 .lss false 9 0], .k 10 (.q [.o [.s 4 (.mov (.const (.int .i64 (-1))))], .ret]) .skip], .o [.m 11 1, .m 4 11],
 .ret]
def uu_ : LF := ⟨2, 12, c11, [.tmp 4]⟩
theorem vG_ : ax_ prog Tryz.f11 uu_ := al_
def c23 : LC :=
 .q [.o [.bx 1 29 0, .s 2 (.alloc 47 z1z)], .o [.s 3 (.alloc 47 z1z)], .o [.fa 4 0 1, .ln 5 4, .c1 6 57 5, .fa 7 0 3, .st 1 7 6], .o [.ld 8 1 3, .st 1 2 8], .ret]
def rC_ : LF := ⟨1, 9, c23, [.cell 2 (some 1)]⟩
theorem vF_ : ax_ prog Tryz.f23 rC_ := al_
def c36 : LC :=
 .q [.o [.bx 2 47 0, .bx 3 47 1, .f 4], .q [.o [.fa 5 0 2, .ln 6 5, .fa 7 0 3, .ln 8 7, .c2 9 82 6 8, .nt 10 9], .k 10 (.q [.o [.f 4], .ret]) .skip], .o [.t 4], .ret]
def rm_ : LF := ⟨2, 11, c36, [.tmp 4]⟩
theorem vh_ : ax_ prog Tryz.f36 rm_ := al_
def uO_ : LC :=
 .q [.o [.bx 2 259 0, .ki 4 0], .o [.fa 5 1 2, .ld 6 1 5, .m 7 1, .c2 8 11 6 7, .m 1 8], .q [.o [.m 9 1, .bk 10 .lss false 9 0], .k 10 (.q [.o [.s 4 (.mov (.const (.int .i64 (-1))))], .ret]) .skip], .o [.m 11 1, .m 4 11],
 .ret]
def o8_ : LF := ⟨2, 12, uO_, [.tmp 4]⟩
theorem si_ : ax_ prog Tryz.f174 o8_ := al_
def q2_ : LC :=
 .q [.o [.bx 1 259 0, .s 2 (.alloc 224 z0z)], .o [.s 3 (.alloc 224 z0z)], .o [.fa 4 0 1, .ln 5 4, .fa 6 0 3, .st 1 6 5], .o [.fa 7 1 1, .ld 8 1 7, .c1 9 23 8, .fa 10 1 3, .st 1 10 9], .o [.ld 11 2 3, .st 2 2 11], .ret]
def pQ_ : LF := ⟨1, 12, q2_, [.cell 2 (some 2)]⟩
theorem ug_ : ax_ prog Tryz.f177 pQ_ := al_
def sF_ : LC :=
 .q [.o [.bx 2 224 0, .bx 3 224 1, .f 4], .q [.o [.fa 5 0 2, .ln 6 5, .fa 7 0 3, .ln 8 7, .bb 9 .neq false 6 8], .k 9 (.q [.o [.f 4], .ret]) .skip], .q [.o [.fa 10 1 2, .ld 11 1 10, .fa 12 1 3, .ld 13 1 12, .c2 14 36 11
 13, .nt 15 14], .k 15 (.q [.o [.f 4], .ret]) .skip], .o [.t 4], .ret]
def pM_ : LF := ⟨2, 16, sF_, [.tmp 4]⟩
theorem tg_ : ax_ prog Tryz.f180 pM_ := al_
theorem b9_ (xs : List ByteArray) (l : Int) (h0 : 0 ≤ l) (h1 : l ≤ 1048576) (hw : a6_ bf_ xs) (h : List Row) : aa_ prog 89 [.list 0 1 (xs.map at_), .val (.int .i64 l)] h (.val (.int .i64 (szR (ac_ ByteArray.size xs) l))) := by
 obtain ⟨hx, hs⟩ := hw
 refine ai_ mixed Tryz.func89 wn_ rfl rfl ?_ h
 simp (disch := omega) only [s5_, c89, ab_, go_sem, reduceEqDiff, reduceCtorEq, Int.reduceNeg, ↓reduceIte, af_]
 refine ⟨fun hn => ?_, fun hn => ?_⟩
 ·rw [an_ (by simp only [ac_]; omega)]; exact ae_ _ _
 ·refine aP_ (fun n t h => ∃ (k : Nat) (m : Int), t 0 = .list 0 1 (xs.map at_) ∧ t 5 = .val (.int .i64 k) ∧ t 1 = .val (.int .i64 m) ∧ h = [] ∧ n = xs.length - k ∧ k ≤ xs.length ∧ 0 ≤ m ∧ m ≤ 1048576 ∧ szR (ac_ ByteArray.size xs) l = szR (bi_ ByteArray.size (xs.drop k)) m) xs.length ?_ ?_
  ·exact ⟨0, l - xs.length, rfl, rfl, rfl, rfl, rfl, Nat.zero_le _, by omega, by omega, bo_ (by omega)⟩
  ·rintro J hJ n t h ⟨k, m, t0, t5, t1, rfl, rfl, hk, hm0, hm1, hS⟩
   by_cases hlt : k < xs.length
   ·have hd := bL_ ByteArray.size xs k hlt
    have hwk := hs _ (getElem_mem hlt)
    rw [hd] at hS
    unfold bf_ at hwk
    simp (disch := omega) only [t0, t5, t1, hlt, ab_, go_sem, reduceEqDiff, reduceCtorEq, Int.reduceNeg, ↓reduceIte, af_]
    refine ⟨fun hn2 => ?_, fun hn2 => ?_⟩
    ·rw [hS, an_ (by omega)]; exact ae_ _ _
    ·exact ⟨xs.length - (k + 1), by omega, hJ _ _ _ ⟨k + 1, m - xs[k].size, by simp [upd, t0], by simp [upd], by simp [upd], rfl, rfl, by omega, by omega, by omega, by rw [hS, bo_ (by omega)]⟩⟩
   ·simp (disch := omega) only [t0, t5, t1, hlt, ab_, go_sem, reduceEqDiff, reduceCtorEq, Int.reduceNeg, ↓reduceIte]
    rw [hS, drop_eq_nil_of_le (by omega), aI_ (by simp only [bi_]; omega)]
    simp only [bi_, Int.natCast_zero, Int.sub_zero]
    exact ae_ _ _
theorem cb_ (xs : List ByteArray) (hb : (ac_ ByteArray.size) xs ≤ 1048576) (h : List Row) : aa_ prog 102 [.list 0 1 (xs.map at_)] h (.list 0 1 (xs.map at_)) := by
 have hx := Nat.le_trans (aW_ (f := ByteArray.size) (xs := xs)) hb
 refine ai_ mixed Tryz.func102 sm_ rfl rfl ?_ h
 simp (disch := omega) only [px_, s1_, go_sem, reduceCtorEq, ↓reduceIte]
 refine ⟨by omega, by omega, ?_⟩
 refine aP_ (fun n t h => ∃ k : Nat, t 0 = .list 0 1 (xs.map at_) ∧ t 3 = .own 0 xs.length ∧ t 4 = .val (.int .i64 k) ∧ h = [⟨9, 1, a0_ (xs.map at_) [.val (.string ⟨#[]⟩)] k⟩] ∧ n = xs.length - k ∧ k ≤ xs.length) xs.length ?_ ?_
 ·exact ⟨0, rfl, rfl, rfl, by rw [bA_]; simp, rfl, Nat.zero_le _⟩
 ·rintro J hJ n t h ⟨k, t0, t3, t4, rfl, rfl, hk⟩
  have fl : (a0_ (xs.map at_) [.val (.string ⟨#[]⟩)] k).length = xs.length := by rw [br_ _ _ (by simpa using hk)]; simp
  by_cases hlt : k < xs.length
  ·have fg : (a0_ (xs.map at_) [.val (.string ⟨#[]⟩)] k)[k]? = some [.val (.string ⟨#[]⟩)] := bM_ _ _ (by simpa using hlt)
   have fs := bE_ (xs.map at_) [.val (.string ⟨#[]⟩)] (at_ xs[k]) (k := k) (by rw [getElem?_map, getElem?_eq_getElem hlt]; rfl)
   simp (disch := omega) only [t0, t3, t4, hlt, fl, fg, ab_, go_sem, reduceEqDiff, reduceCtorEq, ↓reduceIte, af_]
   try simp (disch := omega) only [fs, go_sem]
   exact ⟨xs.length - (k + 1), by omega, hJ _ _ _ ⟨k + 1, by simp [upd, t0], by simp [upd, t3], by simp [upd], by simp [], rfl, by omega⟩⟩
  ·simp (disch := omega) only [t0, t3, t4, hlt, fl, ab_, go_sem, reduceEqDiff, reduceCtorEq, ↓reduceIte]
   have ff : a0_ (xs.map at_) [.val (.string ⟨#[]⟩)] k = xs.map at_ := bK_ _ _ (by simp; omega)
   rw [ff]
   exact bF_ (r := ⟨9, 1, xs.map at_⟩) rfl (by simp) (by intro e he; obtain ⟨x, _, q⟩ := mem_map.1 he; subst q; rfl)
theorem ca_ (xs : List ByteArray) (hb : (ac_ ByteArray.size) xs ≤ 1048576) (h : List Row) : aa_ prog 119 [.list 0 1 (xs.map at_), .list 0 1 (xs.map at_)] h (.val (.bool true)) := by
 have hx := Nat.le_trans (aW_ (f := ByteArray.size) (xs := xs)) hb
 refine ai_ mixed Tryz.func119 t7_ rfl rfl ?_ h
 simp (disch := omega) only [o0_, qY_, ab_, go_sem, reduceEqDiff, reduceCtorEq, ↓reduceIte]
 refine aP_ (fun n t h => ∃ k : Nat, t 0 = .list 0 1 (xs.map at_) ∧ t 1 = .list 0 1 (xs.map at_) ∧ t 5 = .val (.int .i64 k) ∧ h = [] ∧ n = xs.length - k ∧ k ≤ xs.length) xs.length ?_ ?_
 ·exact ⟨0, rfl, rfl, rfl, rfl, rfl, Nat.zero_le _⟩
 ·rintro J hJ n t h ⟨k, t0, t1, t5, rfl, rfl, hk⟩
  by_cases hlt : k < xs.length
  ·simp (disch := omega) only [t0, t1, t5, hlt, ab_, go_sem, reduceEqDiff, reduceCtorEq, ↓reduceIte, af_]
   exact ⟨xs.length - (k + 1), by omega, hJ _ _ _ ⟨k + 1, by simp [upd, t0], by simp [upd, t1], by simp [upd], rfl, rfl, by omega⟩⟩
  ·simp (disch := omega) only [t0, t1, t5, hlt, ab_, go_sem, reduceEqDiff, reduceCtorEq, ↓reduceIte, af_]
   exact ae_ _ _
theorem kw_ (x : aE_) (l : Int) (h0 : 0 ≤ l) (h1 : l ≤ 1048576) (hw : aE_.wf x) (h : List Row) : aa_ prog 88 [.agg (aE_.cells x), .val (.int .i64 l)] h (.val (.int .i64 (szR (aE_.sz x) l))) := by
 obtain ⟨w_Routine, w_Label, w_At, w_Formals, _⟩ := hw
 have hsz : aE_.sz x = ByteArray.size x.Routine + ByteArray.size x.Label + (ac_ ByteArray.size) x.Formals := rfl
 refine ai_ mixed Tryz.func88 uY_ rfl rfl ?_ h
 unfold bf_ at w_Routine
 unfold bf_ at w_Label
 simp (disch := omega) only [uL_, c88, aE_.cells, ab_, go_sem, reduceEqDiff, Nat.reduceAdd, Int.reduceNeg, ↓reduceIte, af_]
 refine ⟨fun hn => ?_, fun hn_Routine => ?_⟩
 ·rw [an_ (by omega)]; exact ae_ _ _
 try simp (disch := omega) only [af_]
 refine ⟨fun hn => ?_, fun hn_Label => ?_⟩
 ·rw [an_ (by omega)]; exact ae_ _ _
 try simp (disch := omega) only [af_]
 refine aa_.call (b9_ x.Formals (l - ByteArray.size x.Routine - ByteArray.size x.Label) (by omega) (by omega) w_Formals _) ?_
 by_cases hn_Formals : ((ac_ ByteArray.size) x.Formals : Int) ≤ l - ByteArray.size x.Routine - ByteArray.size x.Label
 case neg =>
  rw [an_ (n := (ac_ ByteArray.size) x.Formals) (l := l - ByteArray.size x.Routine - ByteArray.size x.Label) (by omega)]
  simp (disch := omega) only [ab_, go_sem, reduceEqDiff, Int.reduceNeg, ↓reduceIte]
  rw [an_ (by omega)]; exact ae_ _ _
 rw [aI_ (n := (ac_ ByteArray.size) x.Formals) (l := l - ByteArray.size x.Routine - ByteArray.size x.Label) hn_Formals]
 simp (disch := omega) only [ab_, go_sem, reduceEqDiff, Int.reduceNeg, ↓reduceIte]
 refine ⟨fun hn => absurd hn (by omega), fun _ => ?_⟩
 rw [aI_ (by omega), hsz]
 have hfin : l - ((ByteArray.size x.Routine + ByteArray.size x.Label + (ac_ ByteArray.size) x.Formals : Nat) : Int) = l - ByteArray.size x.Routine - ByteArray.size x.Label - (ac_ ByteArray.size) x.Formals := by omega
 rw [hfin]; exact ae_ _ _
theorem jE_ (x : aE_) (hb : aE_.sz x ≤ 1048576) (h : List Row) : aa_ prog 101 [.agg (aE_.cells x)] h (.agg (aE_.cells x)) := by
 have hsz : aE_.sz x = ByteArray.size x.Routine + ByteArray.size x.Label + (ac_ ByteArray.size) x.Formals := rfl
 refine ai_ mixed Tryz.func101 sr_ rfl rfl ?_ h
 simp (disch := omega) only [oL_, sQ_, aE_.cells, go_sem, reduceEqDiff, Nat.reduceAdd, reduceLeDiff, ↓reduceIte]
 refine aa_.call (cb_ x.Formals (by omega) _) ?_
 simp (disch := omega) only [go_sem, reduceEqDiff, Nat.reduceAdd, ↓reduceIte, bu_]
 exact bk_ _ _ rfl
theorem kg_ (x : aE_) (hb : aE_.sz x ≤ 1048576) (h : List Row) : aa_ prog 118 [.agg (aE_.cells x), .agg (aE_.cells x)] h (.val (.bool true)) := by
 have hsz : aE_.sz x = ByteArray.size x.Routine + ByteArray.size x.Label + (ac_ ByteArray.size) x.Formals := rfl
 refine ai_ mixed Tryz.func118 tR_ rfl rfl ?_ h
 simp (disch := omega) only [o4_, tU_, aE_.cells, ab_, go_sem, reduceEqDiff, Nat.reduceAdd, ↓reduceIte]
 refine aa_.call (ca_ x.Formals (by omega) _) ?_
 simp (disch := omega) only [ab_, go_sem, ↓reduceIte]
 exact ae_ _ _
theorem ic_ (x : aH_) (l : Int) (h0 : 0 ≤ l) (h1 : l ≤ 1048576) (hw : aH_.wf x) (h : List Row) : aa_ prog 131 [.agg (aH_.cells x), .val (.int .i64 l)] h (.val (.int .i64 (szR (aH_.sz x) l))) := by
 obtain ⟨w_Global, w_Name, w_Subs, _⟩ := hw
 have hsz : aH_.sz x = ByteArray.size x.Name + (ac_ ByteArray.size) x.Subs := rfl
 refine ai_ mixed Tryz.func131 uq_ rfl rfl ?_ h
 unfold bf_ at w_Name
 simp (disch := omega) only [oU_, sn_, aH_.cells, ab_, go_sem, reduceEqDiff, Nat.reduceAdd, Int.reduceNeg, ↓reduceIte, af_]
 refine ⟨fun hn => ?_, fun hn_Name => ?_⟩
 ·rw [an_ (by omega)]; exact ae_ _ _
 try simp (disch := omega) only [af_]
 refine aa_.call (b9_ x.Subs (l - ByteArray.size x.Name) (by omega) (by omega) w_Subs _) ?_
 by_cases hn_Subs : ((ac_ ByteArray.size) x.Subs : Int) ≤ l - ByteArray.size x.Name
 case neg =>
  rw [an_ (n := (ac_ ByteArray.size) x.Subs) (l := l - ByteArray.size x.Name) (by omega)]
  simp (disch := omega) only [ab_, go_sem, reduceEqDiff, Int.reduceNeg, ↓reduceIte]
  rw [an_ (by omega)]; exact ae_ _ _
 rw [aI_ (n := (ac_ ByteArray.size) x.Subs) (l := l - ByteArray.size x.Name) hn_Subs]
 simp (disch := omega) only [ab_, go_sem, reduceEqDiff, Int.reduceNeg, ↓reduceIte]
 refine ⟨fun hn => absurd hn (by omega), fun _ => ?_⟩
 rw [aI_ (by omega), hsz]
 have hfin : l - ((ByteArray.size x.Name + (ac_ ByteArray.size) x.Subs : Nat) : Int) = l - ByteArray.size x.Name - (ac_ ByteArray.size) x.Subs := by omega
 rw [hfin]; exact ae_ _ _
theorem ik_ (x : aH_) (hb : aH_.sz x ≤ 1048576) (h : List Row) : aa_ prog 140 [.agg (aH_.cells x)] h (.agg (aH_.cells x)) := by
 have hsz : aH_.sz x = ByteArray.size x.Name + (ac_ ByteArray.size) x.Subs := rfl
 refine ai_ mixed Tryz.func140 rH_ rfl rfl ?_ h
 simp (disch := omega) only [pP_, rN_, aH_.cells, go_sem, reduceEqDiff, Nat.reduceAdd, reduceLeDiff, ↓reduceIte]
 refine aa_.call (cb_ x.Subs (by omega) _) ?_
 simp (disch := omega) only [go_sem, reduceEqDiff, Nat.reduceAdd, ↓reduceIte, bu_]
 exact bk_ _ _ rfl
theorem h1_ (x : aH_) (hb : aH_.sz x ≤ 1048576) (h : List Row) : aa_ prog 152 [.agg (aH_.cells x), .agg (aH_.cells x)] h (.val (.bool true)) := by
 have hsz : aH_.sz x = ByteArray.size x.Name + (ac_ ByteArray.size) x.Subs := rfl
 refine ai_ mixed Tryz.func152 uP_ rfl rfl ?_ h
 simp (disch := omega) only [pa_, sM_, aH_.cells, ab_, go_sem, reduceEqDiff, Nat.reduceAdd, ↓reduceIte]
 refine aa_.call (ca_ x.Subs (by omega) _) ?_
 simp (disch := omega) only [ab_, go_sem, ↓reduceIte]
 exact ae_ _ _
theorem l3_ (xs : List aH_) (l : Int) (h0 : 0 ≤ l) (h1 : l ≤ 1048576) (hw : a6_ aH_.wf xs) (h : List Row) : aa_ prog 126 [.list 0 3 (xs.map aH_.cells), .val (.int .i64 l)] h (.val (.int .i64 (szR (ac_ aH_.sz xs) l))) := by
 obtain ⟨hx, hs⟩ := hw
 refine ai_ mixed Tryz.func126 qO_ rfl rfl ?_ h
 simp (disch := omega) only [oV_, tq_, ab_, go_sem, reduceEqDiff, reduceCtorEq, Int.reduceNeg, ↓reduceIte, af_]
 refine ⟨fun hn => ?_, fun hn => ?_⟩
 ·rw [an_ (by simp only [ac_]; omega)]; exact ae_ _ _
 ·refine aP_ (fun n t h => ∃ (k : Nat) (m : Int), t 0 = .list 0 3 (xs.map aH_.cells) ∧ t 5 = .val (.int .i64 k) ∧ t 1 = .val (.int .i64 m) ∧ h = [] ∧ n = xs.length - k ∧ k ≤ xs.length ∧ 0 ≤ m ∧ m ≤ 1048576 ∧ szR (ac_ aH_.sz xs) l = szR (bi_ aH_.sz (xs.drop k)) m) xs.length ?_ ?_
  ·exact ⟨0, l - xs.length, rfl, rfl, rfl, rfl, rfl, Nat.zero_le _, by omega, by omega, bo_ (by omega)⟩
  ·rintro J hJ n t h ⟨k, m, t0, t5, t1, rfl, rfl, hk, hm0, hm1, hS⟩
   by_cases hlt : k < xs.length
   ·have hd := bL_ aH_.sz xs k hlt
    have hwk := hs _ (getElem_mem hlt)
    rw [hd] at hS
    simp (disch := omega) only [t0, t5, t1, hlt, aH_.cells, ab_, go_sem, reduceEqDiff, Nat.reduceAdd, reduceCtorEq, Int.reduceNeg, ↓reduceIte]
    refine aa_.call (ic_ xs[k] m hm0 hm1 hwk []) ?_
    by_cases hc : (aH_.sz xs[k] : Int) ≤ m
    ·rw [aI_ (n := aH_.sz xs[k]) (l := m) hc]
     simp (disch := omega) only [t5, ab_, go_sem, reduceEqDiff, Int.reduceNeg, ↓reduceIte, af_]
     refine ⟨fun hn2 => absurd hn2 (by omega), fun _ => ?_⟩
     exact ⟨xs.length - (k + 1), by omega, hJ _ _ _ ⟨k + 1, m - aH_.sz xs[k], by simp [upd, t0], by simp [upd], by simp [upd], rfl, rfl, by omega, by omega, by omega, by rw [hS, bo_ (by omega)]⟩⟩
    ·rw [an_ (n := aH_.sz xs[k]) (l := m) (by omega)]
     simp (disch := omega) only [t5, ab_, go_sem, reduceEqDiff, Int.reduceNeg, ↓reduceIte, af_]
     rw [hS, an_ (by omega)]; exact ae_ _ _
   ·simp (disch := omega) only [t0, t5, t1, hlt, ab_, go_sem, reduceEqDiff, reduceCtorEq, Int.reduceNeg, ↓reduceIte]
    rw [hS, drop_eq_nil_of_le (by omega), aI_ (by simp only [bi_]; omega)]
    simp only [bi_, Int.natCast_zero, Int.sub_zero]
    exact ae_ _ _
theorem lm_ (xs : List aH_) (hb : (ac_ aH_.sz) xs ≤ 1048576) (h : List Row) : aa_ prog 135 [.list 0 3 (xs.map aH_.cells)] h (.list 0 3 (xs.map aH_.cells)) := by
 have hx := Nat.le_trans (aW_ (f := aH_.sz) (xs := xs)) hb
 refine ai_ mixed Tryz.func135 qU_ rfl rfl ?_ h
 simp (disch := omega) only [o9_, qV_, go_sem, reduceCtorEq, ↓reduceIte]
 refine ⟨by omega, by omega, ?_⟩
 refine aP_ (fun n t h => ∃ k : Nat, t 0 = .list 0 3 (xs.map aH_.cells) ∧ t 3 = .own 0 xs.length ∧ t 4 = .val (.int .i64 k) ∧ h = [⟨80, 3, a0_ (xs.map aH_.cells) [.val (.bool false), .val (.string ⟨#[]⟩), .val (.slice none 0 0)] k⟩] ∧ n = xs.length - k ∧ k ≤ xs.length) xs.length ?_ ?_
 ·exact ⟨0, rfl, rfl, rfl, by rw [bA_]; simp, rfl, Nat.zero_le _⟩
 ·rintro J hJ n t h ⟨k, t0, t3, t4, rfl, rfl, hk⟩
  have fl : (a0_ (xs.map aH_.cells) [.val (.bool false), .val (.string ⟨#[]⟩), .val (.slice none 0 0)] k).length = xs.length := by rw [br_ _ _ (by simpa using hk)]; simp
  by_cases hlt : k < xs.length
  ·have fg : (a0_ (xs.map aH_.cells) [.val (.bool false), .val (.string ⟨#[]⟩), .val (.slice none 0 0)] k)[k]? = some [.val (.bool false), .val (.string ⟨#[]⟩), .val (.slice none 0 0)] := bM_ _ _ (by simpa using hlt)
   have fs := bE_ (xs.map aH_.cells) [.val (.bool false), .val (.string ⟨#[]⟩), .val (.slice none 0 0)] (aH_.cells xs[k]) (k := k) (by rw [getElem?_map, getElem?_eq_getElem hlt]; rfl)
   simp only [aH_.cells] at fs
   simp (disch := omega) only [t0, t3, t4, hlt, aH_.cells, ab_, go_sem, reduceEqDiff, Nat.reduceAdd, reduceCtorEq, ↓reduceIte]
   refine aa_.call (ik_ xs[k] (by have := a8_ (f := aH_.sz) (getElem_mem hlt); omega) _) ?_
   simp (disch := omega) only [t4, hlt, fl, fg, fs, aH_.cells, go_sem, reduceEqDiff, Nat.reduceAdd, ↓reduceIte, af_]
   exact ⟨xs.length - (k + 1), by omega, hJ _ _ _ ⟨k + 1, by simp [upd, t0], by simp [upd, t3], by simp [upd], rfl, rfl, by omega⟩⟩
  ·simp (disch := omega) only [t0, t3, t4, hlt, ab_, go_sem, reduceEqDiff, reduceCtorEq, ↓reduceIte]
   have ff : a0_ (xs.map aH_.cells) [.val (.bool false), .val (.string ⟨#[]⟩), .val (.slice none 0 0)] k = xs.map aH_.cells := bK_ _ _ (by simp; omega)
   rw [ff]
   exact bF_ (r := ⟨80, 3, xs.map aH_.cells⟩) rfl (by simp) (by intro e he; obtain ⟨x, _, q⟩ := mem_map.1 he; subst q; rfl)
theorem lC_ (xs : List aH_) (hb : (ac_ aH_.sz) xs ≤ 1048576) (h : List Row) : aa_ prog 147 [.list 0 3 (xs.map aH_.cells), .list 0 3 (xs.map aH_.cells)] h (.val (.bool true)) := by
 have hx := Nat.le_trans (aW_ (f := aH_.sz) (xs := xs)) hb
 refine ai_ mixed Tryz.func147 uk_ rfl rfl ?_ h
 simp (disch := omega) only [pg_, q4_, ab_, go_sem, reduceEqDiff, reduceCtorEq, ↓reduceIte]
 refine aP_ (fun n t h => ∃ k : Nat, t 0 = .list 0 3 (xs.map aH_.cells) ∧ t 1 = .list 0 3 (xs.map aH_.cells) ∧ t 5 = .val (.int .i64 k) ∧ h = [] ∧ n = xs.length - k ∧ k ≤ xs.length) xs.length ?_ ?_
 ·exact ⟨0, rfl, rfl, rfl, rfl, rfl, Nat.zero_le _⟩
 ·rintro J hJ n t h ⟨k, t0, t1, t5, rfl, rfl, hk⟩
  by_cases hlt : k < xs.length
  ·simp (disch := omega) only [t0, t1, t5, hlt, aH_.cells, ab_, go_sem, reduceEqDiff, Nat.reduceAdd, reduceCtorEq, ↓reduceIte, af_]
   refine aa_.q (h1_ xs[k] (by have := a8_ (f := aH_.sz) (getElem_mem hlt); omega) _) ?_
   simp (disch := omega) only [go_sem]
   exact ⟨xs.length - (k + 1), by omega, hJ _ _ _ ⟨k + 1, by simp [upd, t0], by simp [upd, t1], by simp [upd], rfl, rfl, by omega⟩⟩
  ·simp (disch := omega) only [t0, t1, t5, hlt, ab_, go_sem, reduceEqDiff, reduceCtorEq, ↓reduceIte, af_]
   exact ae_ _ _
theorem kb_ (x : aA_) (l : Int) (h0 : 0 ≤ l) (h1 : l ≤ 1048576) (hw : aA_.wf x) (h : List Row) : aa_ prog 154 [.agg (aA_.cells x), .val (.int .i64 l)] h (.val (.int .i64 (szR (aA_.sz x) l))) := by
 obtain ⟨w_ByRef, w_Text, _⟩ := hw
 have hsz : aA_.sz x = ByteArray.size x.Text := rfl
 refine ai_ mixed Tryz.func154 sf_ rfl rfl ?_ h
 unfold bf_ at w_Text
 simp (disch := omega) only [pc_, t9_, aA_.cells, ab_, go_sem, reduceEqDiff, Nat.reduceAdd, Int.reduceNeg, ↓reduceIte, af_]
 refine ⟨fun hn => ?_, fun hn_Text => ?_⟩
 ·rw [an_ (by omega)]; exact ae_ _ _
 try simp (disch := omega) only [af_]
 rw [aI_ (by omega), hsz]
 have hfin : l - ((ByteArray.size x.Text : Nat) : Int) = l - ByteArray.size x.Text := by omega
 rw [hfin]; exact ae_ _ _
theorem ka_ (x : aA_) (hb : aA_.sz x ≤ 1048576) (h : List Row) : aa_ prog 161 [.agg (aA_.cells x)] h (.agg (aA_.cells x)) := by
 have hsz : aA_.sz x = ByteArray.size x.Text := rfl
 refine ai_ mixed Tryz.func161 rk_ rfl rfl ?_ h
 simp (disch := omega) only [pF_, qS_, aA_.cells, go_sem, reduceEqDiff, Nat.reduceAdd, reduceLeDiff, ↓reduceIte, bu_]
 exact bk_ _ _ rfl
theorem ki_ (x : aA_) (hb : aA_.sz x ≤ 1048576) (h : List Row) : aa_ prog 167 [.agg (aA_.cells x), .agg (aA_.cells x)] h (.val (.bool true)) := by
 have hsz : aA_.sz x = ByteArray.size x.Text := rfl
 refine ai_ mixed Tryz.func167 q0_ rfl rfl ?_ h
 simp (disch := omega) only [pw_, sD_, aA_.cells, ab_, go_sem, reduceEqDiff, Nat.reduceAdd, ↓reduceIte]
 exact ae_ _ _
theorem i9_ (xs : List aA_) (l : Int) (h0 : 0 ≤ l) (h1 : l ≤ 1048576) (hw : a6_ aA_.wf xs) (h : List Row) : aa_ prog 127 [.list 0 2 (xs.map aA_.cells), .val (.int .i64 l)] h (.val (.int .i64 (szR (ac_ aA_.sz xs) l))) := by
 obtain ⟨hx, hs⟩ := hw
 refine ai_ mixed Tryz.func127 uC_ rfl rfl ?_ h
 simp (disch := omega) only [pe_, qF_, ab_, go_sem, reduceEqDiff, reduceCtorEq, Int.reduceNeg, ↓reduceIte, af_]
 refine ⟨fun hn => ?_, fun hn => ?_⟩
 ·rw [an_ (by simp only [ac_]; omega)]; exact ae_ _ _
 ·refine aP_ (fun n t h => ∃ (k : Nat) (m : Int), t 0 = .list 0 2 (xs.map aA_.cells) ∧ t 5 = .val (.int .i64 k) ∧ t 1 = .val (.int .i64 m) ∧ h = [] ∧ n = xs.length - k ∧ k ≤ xs.length ∧ 0 ≤ m ∧ m ≤ 1048576 ∧ szR (ac_ aA_.sz xs) l = szR (bi_ aA_.sz (xs.drop k)) m) xs.length ?_ ?_
  ·exact ⟨0, l - xs.length, rfl, rfl, rfl, rfl, rfl, Nat.zero_le _, by omega, by omega, bo_ (by omega)⟩
  ·rintro J hJ n t h ⟨k, m, t0, t5, t1, rfl, rfl, hk, hm0, hm1, hS⟩
   by_cases hlt : k < xs.length
   ·have hd := bL_ aA_.sz xs k hlt
    have hwk := hs _ (getElem_mem hlt)
    rw [hd] at hS
    simp (disch := omega) only [t0, t5, t1, hlt, aA_.cells, ab_, go_sem, reduceEqDiff, Nat.reduceAdd, reduceCtorEq, Int.reduceNeg, ↓reduceIte]
    refine aa_.call (kb_ xs[k] m hm0 hm1 hwk []) ?_
    by_cases hc : (aA_.sz xs[k] : Int) ≤ m
    ·rw [aI_ (n := aA_.sz xs[k]) (l := m) hc]
     simp (disch := omega) only [t5, ab_, go_sem, reduceEqDiff, Int.reduceNeg, ↓reduceIte, af_]
     refine ⟨fun hn2 => absurd hn2 (by omega), fun _ => ?_⟩
     exact ⟨xs.length - (k + 1), by omega, hJ _ _ _ ⟨k + 1, m - aA_.sz xs[k], by simp [upd, t0], by simp [upd], by simp [upd], rfl, rfl, by omega, by omega, by omega, by rw [hS, bo_ (by omega)]⟩⟩
    ·rw [an_ (n := aA_.sz xs[k]) (l := m) (by omega)]
     simp (disch := omega) only [t5, ab_, go_sem, reduceEqDiff, Int.reduceNeg, ↓reduceIte, af_]
     rw [hS, an_ (by omega)]; exact ae_ _ _
   ·simp (disch := omega) only [t0, t5, t1, hlt, ab_, go_sem, reduceEqDiff, reduceCtorEq, Int.reduceNeg, ↓reduceIte]
    rw [hS, drop_eq_nil_of_le (by omega), aI_ (by simp only [bi_]; omega)]
    simp only [bi_, Int.natCast_zero, Int.sub_zero]
    exact ae_ _ _
theorem i3_ (xs : List aA_) (hb : (ac_ aA_.sz) xs ≤ 1048576) (h : List Row) : aa_ prog 136 [.list 0 2 (xs.map aA_.cells)] h (.list 0 2 (xs.map aA_.cells)) := by
 have hx := Nat.le_trans (aW_ (f := aA_.sz) (xs := xs)) hb
 refine ai_ mixed Tryz.func136 sJ_ rfl rfl ?_ h
 simp (disch := omega) only [oM_, sa_, go_sem, reduceCtorEq, ↓reduceIte]
 refine ⟨by omega, by omega, ?_⟩
 refine aP_ (fun n t h => ∃ k : Nat, t 0 = .list 0 2 (xs.map aA_.cells) ∧ t 3 = .own 0 xs.length ∧ t 4 = .val (.int .i64 k) ∧ h = [⟨198, 2, a0_ (xs.map aA_.cells) [.val (.bool false), .val (.string ⟨#[]⟩)] k⟩] ∧ n = xs.length - k ∧ k ≤ xs.length) xs.length ?_ ?_
 ·exact ⟨0, rfl, rfl, rfl, by rw [bA_]; simp, rfl, Nat.zero_le _⟩
 ·rintro J hJ n t h ⟨k, t0, t3, t4, rfl, rfl, hk⟩
  have fl : (a0_ (xs.map aA_.cells) [.val (.bool false), .val (.string ⟨#[]⟩)] k).length = xs.length := by rw [br_ _ _ (by simpa using hk)]; simp
  by_cases hlt : k < xs.length
  ·have fg : (a0_ (xs.map aA_.cells) [.val (.bool false), .val (.string ⟨#[]⟩)] k)[k]? = some [.val (.bool false), .val (.string ⟨#[]⟩)] := bM_ _ _ (by simpa using hlt)
   have fs := bE_ (xs.map aA_.cells) [.val (.bool false), .val (.string ⟨#[]⟩)] (aA_.cells xs[k]) (k := k) (by rw [getElem?_map, getElem?_eq_getElem hlt]; rfl)
   simp only [aA_.cells] at fs
   simp (disch := omega) only [t0, t3, t4, hlt, aA_.cells, ab_, go_sem, reduceEqDiff, Nat.reduceAdd, reduceCtorEq, ↓reduceIte]
   refine aa_.call (ka_ xs[k] (by have := a8_ (f := aA_.sz) (getElem_mem hlt); omega) _) ?_
   simp (disch := omega) only [t4, hlt, fl, fg, fs, aA_.cells, go_sem, reduceEqDiff, Nat.reduceAdd, ↓reduceIte, af_]
   exact ⟨xs.length - (k + 1), by omega, hJ _ _ _ ⟨k + 1, by simp [upd, t0], by simp [upd, t3], by simp [upd], rfl, rfl, by omega⟩⟩
  ·simp (disch := omega) only [t0, t3, t4, hlt, ab_, go_sem, reduceEqDiff, reduceCtorEq, ↓reduceIte]
   have ff : a0_ (xs.map aA_.cells) [.val (.bool false), .val (.string ⟨#[]⟩)] k = xs.map aA_.cells := bK_ _ _ (by simp; omega)
   rw [ff]
   exact bF_ (r := ⟨198, 2, xs.map aA_.cells⟩) rfl (by simp) (by intro e he; obtain ⟨x, _, q⟩ := mem_map.1 he; subst q; rfl)
theorem iD_ (xs : List aA_) (hb : (ac_ aA_.sz) xs ≤ 1048576) (h : List Row) : aa_ prog 148 [.list 0 2 (xs.map aA_.cells), .list 0 2 (xs.map aA_.cells)] h (.val (.bool true)) := by
 have hx := Nat.le_trans (aW_ (f := aA_.sz) (xs := xs)) hb
 refine ai_ mixed Tryz.func148 rE_ rfl rfl ?_ h
 simp (disch := omega) only [o5_, tr_, ab_, go_sem, reduceEqDiff, reduceCtorEq, ↓reduceIte]
 refine aP_ (fun n t h => ∃ k : Nat, t 0 = .list 0 2 (xs.map aA_.cells) ∧ t 1 = .list 0 2 (xs.map aA_.cells) ∧ t 5 = .val (.int .i64 k) ∧ h = [] ∧ n = xs.length - k ∧ k ≤ xs.length) xs.length ?_ ?_
 ·exact ⟨0, rfl, rfl, rfl, rfl, rfl, Nat.zero_le _⟩
 ·rintro J hJ n t h ⟨k, t0, t1, t5, rfl, rfl, hk⟩
  by_cases hlt : k < xs.length
  ·simp (disch := omega) only [t0, t1, t5, hlt, aA_.cells, ab_, go_sem, reduceEqDiff, Nat.reduceAdd, reduceCtorEq, ↓reduceIte, af_]
   refine aa_.q (ki_ xs[k] (by have := a8_ (f := aA_.sz) (getElem_mem hlt); omega) _) ?_
   simp (disch := omega) only [go_sem]
   exact ⟨xs.length - (k + 1), by omega, hJ _ _ _ ⟨k + 1, by simp [upd, t0], by simp [upd, t1], by simp [upd], rfl, rfl, by omega⟩⟩
  ·simp (disch := omega) only [t0, t1, t5, hlt, ab_, go_sem, reduceEqDiff, reduceCtorEq, ↓reduceIte, af_]
   exact ae_ _ _
theorem ld_ (x : aR_) (l : Int) (h0 : 0 ≤ l) (h1 : l ≤ 1048576) (hw : aR_.wf x) (h : List Row) : aa_ prog 155 [.agg (aR_.cells x), .val (.int .i64 l)] h (.val (.int .i64 (szR (aR_.sz x) l))) := by
 obtain ⟨w_Name, w_Step, w_Limit, w_Has, w_Next, w_End, _⟩ := hw
 have hsz : aR_.sz x = ByteArray.size x.Name := rfl
 refine ai_ mixed Tryz.func155 to_ rfl rfl ?_ h
 unfold bf_ at w_Name
 simp (disch := omega) only [o7_, r6_, aR_.cells, ab_, go_sem, reduceEqDiff, Nat.reduceAdd, Int.reduceNeg, ↓reduceIte, af_]
 refine ⟨fun hn => ?_, fun hn_Name => ?_⟩
 ·rw [an_ (by omega)]; exact ae_ _ _
 try simp (disch := omega) only [af_]
 rw [aI_ (by omega), hsz]
 have hfin : l - ((ByteArray.size x.Name : Nat) : Int) = l - ByteArray.size x.Name := by omega
 rw [hfin]; exact ae_ _ _
theorem kY_ (x : aR_) (hb : aR_.sz x ≤ 1048576) (h : List Row) : aa_ prog 162 [.agg (aR_.cells x)] h (.agg (aR_.cells x)) := by
 have hsz : aR_.sz x = ByteArray.size x.Name := rfl
 refine ai_ mixed Tryz.func162 s2_ rfl rfl ?_ h
 simp (disch := omega) only [oZ_, sR_, aR_.cells, go_sem, reduceEqDiff, Nat.reduceAdd, reduceLeDiff, ↓reduceIte, bu_]
 exact bk_ _ _ rfl
theorem kX_ (x : aR_) (hb : aR_.sz x ≤ 1048576) (h : List Row) : aa_ prog 168 [.agg (aR_.cells x), .agg (aR_.cells x)] h (.val (.bool true)) := by
 have hsz : aR_.sz x = ByteArray.size x.Name := rfl
 refine ai_ mixed Tryz.func168 tY_ rfl rfl ?_ h
 simp (disch := omega) only [pA_, qW_, aR_.cells, ab_, go_sem, reduceEqDiff, Nat.reduceAdd, ↓reduceIte]
 exact ae_ _ _
theorem jD_ (xs : List aR_) (l : Int) (h0 : 0 ≤ l) (h1 : l ≤ 1048576) (hw : a6_ aR_.wf xs) (h : List Row) : aa_ prog 128 [.list 0 6 (xs.map aR_.cells), .val (.int .i64 l)] h (.val (.int .i64 (szR (ac_ aR_.sz xs) l))) := by
 obtain ⟨hx, hs⟩ := hw
 refine ai_ mixed Tryz.func128 rI_ rfl rfl ?_ h
 simp (disch := omega) only [oH_, st_, ab_, go_sem, reduceEqDiff, reduceCtorEq, Int.reduceNeg, ↓reduceIte, af_]
 refine ⟨fun hn => ?_, fun hn => ?_⟩
 ·rw [an_ (by simp only [ac_]; omega)]; exact ae_ _ _
 ·refine aP_ (fun n t h => ∃ (k : Nat) (m : Int), t 0 = .list 0 6 (xs.map aR_.cells) ∧ t 5 = .val (.int .i64 k) ∧ t 1 = .val (.int .i64 m) ∧ h = [] ∧ n = xs.length - k ∧ k ≤ xs.length ∧ 0 ≤ m ∧ m ≤ 1048576 ∧ szR (ac_ aR_.sz xs) l = szR (bi_ aR_.sz (xs.drop k)) m) xs.length ?_ ?_
  ·exact ⟨0, l - xs.length, rfl, rfl, rfl, rfl, rfl, Nat.zero_le _, by omega, by omega, bo_ (by omega)⟩
  ·rintro J hJ n t h ⟨k, m, t0, t5, t1, rfl, rfl, hk, hm0, hm1, hS⟩
   by_cases hlt : k < xs.length
   ·have hd := bL_ aR_.sz xs k hlt
    have hwk := hs _ (getElem_mem hlt)
    rw [hd] at hS
    simp (disch := omega) only [t0, t5, t1, hlt, aR_.cells, ab_, go_sem, reduceEqDiff, Nat.reduceAdd, reduceCtorEq, Int.reduceNeg, ↓reduceIte]
    refine aa_.call (ld_ xs[k] m hm0 hm1 hwk []) ?_
    by_cases hc : (aR_.sz xs[k] : Int) ≤ m
    ·rw [aI_ (n := aR_.sz xs[k]) (l := m) hc]
     simp (disch := omega) only [t5, ab_, go_sem, reduceEqDiff, Int.reduceNeg, ↓reduceIte, af_]
     refine ⟨fun hn2 => absurd hn2 (by omega), fun _ => ?_⟩
     exact ⟨xs.length - (k + 1), by omega, hJ _ _ _ ⟨k + 1, m - aR_.sz xs[k], by simp [upd, t0], by simp [upd], by simp [upd], rfl, rfl, by omega, by omega, by omega, by rw [hS, bo_ (by omega)]⟩⟩
    ·rw [an_ (n := aR_.sz xs[k]) (l := m) (by omega)]
     simp (disch := omega) only [t5, ab_, go_sem, reduceEqDiff, Int.reduceNeg, ↓reduceIte, af_]
     rw [hS, an_ (by omega)]; exact ae_ _ _
   ·simp (disch := omega) only [t0, t5, t1, hlt, ab_, go_sem, reduceEqDiff, reduceCtorEq, Int.reduceNeg, ↓reduceIte]
    rw [hS, drop_eq_nil_of_le (by omega), aI_ (by simp only [bi_]; omega)]
    simp only [bi_, Int.natCast_zero, Int.sub_zero]
    exact ae_ _ _
theorem km_ (xs : List aR_) (hb : (ac_ aR_.sz) xs ≤ 1048576) (h : List Row) : aa_ prog 137 [.list 0 6 (xs.map aR_.cells)] h (.list 0 6 (xs.map aR_.cells)) := by
 have hx := Nat.le_trans (aW_ (f := aR_.sz) (xs := xs)) hb
 refine ai_ mixed Tryz.func137 r0_ rfl rfl ?_ h
 simp (disch := omega) only [pf_, tD_, go_sem, reduceCtorEq, ↓reduceIte]
 refine ⟨by omega, by omega, ?_⟩
 refine aP_ (fun n t h => ∃ k : Nat, t 0 = .list 0 6 (xs.map aR_.cells) ∧ t 3 = .own 0 xs.length ∧ t 4 = .val (.int .i64 k) ∧ h = [⟨201, 6, a0_ (xs.map aR_.cells) [.val (.string ⟨#[]⟩), .val (.int .i64 0), .val (.int .i64 0), .val (.bool false), .val (.int .i64 0), .val (.int .i64 0)] k⟩] ∧ n = xs.length - k ∧ k ≤ xs.length) xs.length ?_ ?_
 ·exact ⟨0, rfl, rfl, rfl, by rw [bA_]; simp, rfl, Nat.zero_le _⟩
 ·rintro J hJ n t h ⟨k, t0, t3, t4, rfl, rfl, hk⟩
  have fl : (a0_ (xs.map aR_.cells) [.val (.string ⟨#[]⟩), .val (.int .i64 0), .val (.int .i64 0), .val (.bool false), .val (.int .i64 0), .val (.int .i64 0)] k).length = xs.length := by rw [br_ _ _ (by simpa using hk)]; simp
  by_cases hlt : k < xs.length
  ·have fg : (a0_ (xs.map aR_.cells) [.val (.string ⟨#[]⟩), .val (.int .i64 0), .val (.int .i64 0), .val (.bool false), .val (.int .i64 0), .val (.int .i64 0)] k)[k]? = some [.val (.string ⟨#[]⟩), .val (.int .i64 0), .val (.int .i64 0), .val (.bool false), .val (.int .i64 0), .val (.int .i64 0)] := bM_ _ _ (by simpa using hlt)
   have fs := bE_ (xs.map aR_.cells) [.val (.string ⟨#[]⟩), .val (.int .i64 0), .val (.int .i64 0), .val (.bool false), .val (.int .i64 0), .val (.int .i64 0)] (aR_.cells xs[k]) (k := k) (by rw [getElem?_map, getElem?_eq_getElem hlt]; rfl)
   simp only [aR_.cells] at fs
   simp (disch := omega) only [t0, t3, t4, hlt, aR_.cells, ab_, go_sem, reduceEqDiff, Nat.reduceAdd, reduceCtorEq, ↓reduceIte]
   refine aa_.call (kY_ xs[k] (by have := a8_ (f := aR_.sz) (getElem_mem hlt); omega) _) ?_
   simp (disch := omega) only [t4, hlt, fl, fg, fs, aR_.cells, go_sem, reduceEqDiff, Nat.reduceAdd, ↓reduceIte, af_]
   exact ⟨xs.length - (k + 1), by omega, hJ _ _ _ ⟨k + 1, by simp [upd, t0], by simp [upd, t3], by simp [upd], rfl, rfl, by omega⟩⟩
  ·simp (disch := omega) only [t0, t3, t4, hlt, ab_, go_sem, reduceEqDiff, reduceCtorEq, ↓reduceIte]
   have ff : a0_ (xs.map aR_.cells) [.val (.string ⟨#[]⟩), .val (.int .i64 0), .val (.int .i64 0), .val (.bool false), .val (.int .i64 0), .val (.int .i64 0)] k = xs.map aR_.cells := bK_ _ _ (by simp; omega)
   rw [ff]
   exact bF_ (r := ⟨201, 6, xs.map aR_.cells⟩) rfl (by simp) (by intro e he; obtain ⟨x, _, q⟩ := mem_map.1 he; subst q; rfl)
theorem jS_ (xs : List aR_) (hb : (ac_ aR_.sz) xs ≤ 1048576) (h : List Row) : aa_ prog 149 [.list 0 6 (xs.map aR_.cells), .list 0 6 (xs.map aR_.cells)] h (.val (.bool true)) := by
 have hx := Nat.le_trans (aW_ (f := aR_.sz) (xs := xs)) hb
 refine ai_ mixed Tryz.func149 ro_ rfl rfl ?_ h
 simp (disch := omega) only [pB_, tL_, ab_, go_sem, reduceEqDiff, reduceCtorEq, ↓reduceIte]
 refine aP_ (fun n t h => ∃ k : Nat, t 0 = .list 0 6 (xs.map aR_.cells) ∧ t 1 = .list 0 6 (xs.map aR_.cells) ∧ t 5 = .val (.int .i64 k) ∧ h = [] ∧ n = xs.length - k ∧ k ≤ xs.length) xs.length ?_ ?_
 ·exact ⟨0, rfl, rfl, rfl, rfl, rfl, Nat.zero_le _⟩
 ·rintro J hJ n t h ⟨k, t0, t1, t5, rfl, rfl, hk⟩
  by_cases hlt : k < xs.length
  ·simp (disch := omega) only [t0, t1, t5, hlt, aR_.cells, ab_, go_sem, reduceEqDiff, Nat.reduceAdd, reduceCtorEq, ↓reduceIte, af_]
   refine aa_.q (kX_ xs[k] (by have := a8_ (f := aR_.sz) (getElem_mem hlt); omega) _) ?_
   simp (disch := omega) only [go_sem]
   exact ⟨xs.length - (k + 1), by omega, hJ _ _ _ ⟨k + 1, by simp [upd, t0], by simp [upd, t1], by simp [upd], rfl, rfl, by omega⟩⟩
  ·simp (disch := omega) only [t0, t1, t5, hlt, ab_, go_sem, reduceEqDiff, reduceCtorEq, ↓reduceIte, af_]
   exact ae_ _ _
theorem kE_ (x : aF_) (l : Int) (h0 : 0 ≤ l) (h1 : l ≤ 1048576) (hw : aF_.wf x) (h : List Row) : aa_ prog 156 [.agg (aF_.cells x), .val (.int .i64 l)] h (.val (.int .i64 (szR (aF_.sz x) l))) := by
 obtain ⟨w_Ret, w_Value, w_Test, w_Stack, w_Refs, w_Args, w_Loops, w_Trap, w_Routine, _⟩ := hw
 have hsz : aF_.sz x = ByteArray.size x.Trap + ByteArray.size x.Routine := rfl
 refine ai_ mixed Tryz.func156 t3_ rfl rfl ?_ h
 unfold bf_ at w_Trap
 unfold bf_ at w_Routine
 simp (disch := omega) only [pS_, um_, aF_.cells, ab_, go_sem, reduceEqDiff, Nat.reduceAdd, Int.reduceNeg, ↓reduceIte, af_]
 refine ⟨fun hn => ?_, fun hn_Trap => ?_⟩
 ·rw [an_ (by omega)]; exact ae_ _ _
 try simp (disch := omega) only [af_]
 refine ⟨fun hn => ?_, fun hn_Routine => ?_⟩
 ·rw [an_ (by omega)]; exact ae_ _ _
 try simp (disch := omega) only [af_]
 rw [aI_ (by omega), hsz]
 have hfin : l - ((ByteArray.size x.Trap + ByteArray.size x.Routine : Nat) : Int) = l - ByteArray.size x.Trap - ByteArray.size x.Routine := by omega
 rw [hfin]; exact ae_ _ _
theorem jK_ (x : aF_) (hb : aF_.sz x ≤ 1048576) (h : List Row) : aa_ prog 163 [.agg (aF_.cells x)] h (.agg (aF_.cells x)) := by
 have hsz : aF_.sz x = ByteArray.size x.Trap + ByteArray.size x.Routine := rfl
 refine ai_ mixed Tryz.func163 tJ_ rfl rfl ?_ h
 simp (disch := omega) only [oI_, uN_, aF_.cells, go_sem, reduceEqDiff, Nat.reduceAdd, reduceLeDiff, ↓reduceIte, bu_]
 exact bk_ _ _ rfl
theorem kC_ (x : aF_) (hb : aF_.sz x ≤ 1048576) (h : List Row) : aa_ prog 169 [.agg (aF_.cells x), .agg (aF_.cells x)] h (.val (.bool true)) := by
 have hsz : aF_.sz x = ByteArray.size x.Trap + ByteArray.size x.Routine := rfl
 refine ai_ mixed Tryz.func169 qE_ rfl rfl ?_ h
 simp (disch := omega) only [pl_, uI_, aF_.cells, ab_, go_sem, reduceEqDiff, Nat.reduceAdd, ↓reduceIte]
 exact ae_ _ _
theorem jb_ (xs : List aF_) (l : Int) (h0 : 0 ≤ l) (h1 : l ≤ 1048576) (hw : a6_ aF_.wf xs) (h : List Row) : aa_ prog 129 [.list 0 9 (xs.map aF_.cells), .val (.int .i64 l)] h (.val (.int .i64 (szR (ac_ aF_.sz xs) l))) := by
 obtain ⟨hx, hs⟩ := hw
 refine ai_ mixed Tryz.func129 sg_ rfl rfl ?_ h
 simp (disch := omega) only [pR_, sZ_, ab_, go_sem, reduceEqDiff, reduceCtorEq, Int.reduceNeg, ↓reduceIte, af_]
 refine ⟨fun hn => ?_, fun hn => ?_⟩
 ·rw [an_ (by simp only [ac_]; omega)]; exact ae_ _ _
 ·refine aP_ (fun n t h => ∃ (k : Nat) (m : Int), t 0 = .list 0 9 (xs.map aF_.cells) ∧ t 5 = .val (.int .i64 k) ∧ t 1 = .val (.int .i64 m) ∧ h = [] ∧ n = xs.length - k ∧ k ≤ xs.length ∧ 0 ≤ m ∧ m ≤ 1048576 ∧ szR (ac_ aF_.sz xs) l = szR (bi_ aF_.sz (xs.drop k)) m) xs.length ?_ ?_
  ·exact ⟨0, l - xs.length, rfl, rfl, rfl, rfl, rfl, Nat.zero_le _, by omega, by omega, bo_ (by omega)⟩
  ·rintro J hJ n t h ⟨k, m, t0, t5, t1, rfl, rfl, hk, hm0, hm1, hS⟩
   by_cases hlt : k < xs.length
   ·have hd := bL_ aF_.sz xs k hlt
    have hwk := hs _ (getElem_mem hlt)
    rw [hd] at hS
    simp (disch := omega) only [t0, t5, t1, hlt, aF_.cells, ab_, go_sem, reduceEqDiff, Nat.reduceAdd, reduceCtorEq, Int.reduceNeg, ↓reduceIte]
    refine aa_.call (kE_ xs[k] m hm0 hm1 hwk []) ?_
    by_cases hc : (aF_.sz xs[k] : Int) ≤ m
    ·rw [aI_ (n := aF_.sz xs[k]) (l := m) hc]
     simp (disch := omega) only [t5, ab_, go_sem, reduceEqDiff, Int.reduceNeg, ↓reduceIte, af_]
     refine ⟨fun hn2 => absurd hn2 (by omega), fun _ => ?_⟩
     exact ⟨xs.length - (k + 1), by omega, hJ _ _ _ ⟨k + 1, m - aF_.sz xs[k], by simp [upd, t0], by simp [upd], by simp [upd], rfl, rfl, by omega, by omega, by omega, by rw [hS, bo_ (by omega)]⟩⟩
    ·rw [an_ (n := aF_.sz xs[k]) (l := m) (by omega)]
     simp (disch := omega) only [t5, ab_, go_sem, reduceEqDiff, Int.reduceNeg, ↓reduceIte, af_]
     rw [hS, an_ (by omega)]; exact ae_ _ _
   ·simp (disch := omega) only [t0, t5, t1, hlt, ab_, go_sem, reduceEqDiff, reduceCtorEq, Int.reduceNeg, ↓reduceIte]
    rw [hS, drop_eq_nil_of_le (by omega), aI_ (by simp only [bi_]; omega)]
    simp only [bi_, Int.natCast_zero, Int.sub_zero]
    exact ae_ _ _
theorem iZ_ (xs : List aF_) (hb : (ac_ aF_.sz) xs ≤ 1048576) (h : List Row) : aa_ prog 138 [.list 0 9 (xs.map aF_.cells)] h (.list 0 9 (xs.map aF_.cells)) := by
 have hx := Nat.le_trans (aW_ (f := aF_.sz) (xs := xs)) hb
 refine ai_ mixed Tryz.func138 tB_ rfl rfl ?_ h
 simp (disch := omega) only [pO_, sh_, go_sem, reduceCtorEq, ↓reduceIte]
 refine ⟨by omega, by omega, ?_⟩
 refine aP_ (fun n t h => ∃ k : Nat, t 0 = .list 0 9 (xs.map aF_.cells) ∧ t 3 = .own 0 xs.length ∧ t 4 = .val (.int .i64 k) ∧ h = [⟨204, 9, a0_ (xs.map aF_.cells) [.val (.int .i64 0), .val (.bool false), .val (.bool false), .val (.int .i64 0), .val (.int .i64 0), .val (.int .i64 0), .val (.int .i64 0), .val (.string ⟨#[]⟩), .val (.string ⟨#[]⟩)] k⟩] ∧ n = xs.length - k ∧ k ≤ xs.length) xs.length ?_ ?_
 ·exact ⟨0, rfl, rfl, rfl, by rw [bA_]; simp, rfl, Nat.zero_le _⟩
 ·rintro J hJ n t h ⟨k, t0, t3, t4, rfl, rfl, hk⟩
  have fl : (a0_ (xs.map aF_.cells) [.val (.int .i64 0), .val (.bool false), .val (.bool false), .val (.int .i64 0), .val (.int .i64 0), .val (.int .i64 0), .val (.int .i64 0), .val (.string ⟨#[]⟩), .val (.string ⟨#[]⟩)] k).length = xs.length := by rw [br_ _ _ (by simpa using hk)]; simp
  by_cases hlt : k < xs.length
  ·have fg : (a0_ (xs.map aF_.cells) [.val (.int .i64 0), .val (.bool false), .val (.bool false), .val (.int .i64 0), .val (.int .i64 0), .val (.int .i64 0), .val (.int .i64 0), .val (.string ⟨#[]⟩), .val (.string ⟨#[]⟩)] k)[k]? = some [.val (.int .i64 0), .val (.bool false), .val (.bool false), .val (.int .i64 0), .val (.int .i64 0), .val (.int .i64 0), .val (.int .i64 0), .val (.string ⟨#[]⟩), .val (.string ⟨#[]⟩)] := bM_ _ _ (by simpa using hlt)
   have fs := bE_ (xs.map aF_.cells) [.val (.int .i64 0), .val (.bool false), .val (.bool false), .val (.int .i64 0), .val (.int .i64 0), .val (.int .i64 0), .val (.int .i64 0), .val (.string ⟨#[]⟩), .val (.string ⟨#[]⟩)] (aF_.cells xs[k]) (k := k) (by rw [getElem?_map, getElem?_eq_getElem hlt]; rfl)
   simp only [aF_.cells] at fs
   simp (disch := omega) only [t0, t3, t4, hlt, aF_.cells, ab_, go_sem, reduceEqDiff, Nat.reduceAdd, reduceCtorEq, ↓reduceIte]
   refine aa_.call (jK_ xs[k] (by have := a8_ (f := aF_.sz) (getElem_mem hlt); omega) _) ?_
   simp (disch := omega) only [t4, hlt, fl, fg, fs, aF_.cells, go_sem, reduceEqDiff, Nat.reduceAdd, ↓reduceIte, af_]
   exact ⟨xs.length - (k + 1), by omega, hJ _ _ _ ⟨k + 1, by simp [upd, t0], by simp [upd, t3], by simp [upd], rfl, rfl, by omega⟩⟩
  ·simp (disch := omega) only [t0, t3, t4, hlt, ab_, go_sem, reduceEqDiff, reduceCtorEq, ↓reduceIte]
   have ff : a0_ (xs.map aF_.cells) [.val (.int .i64 0), .val (.bool false), .val (.bool false), .val (.int .i64 0), .val (.int .i64 0), .val (.int .i64 0), .val (.int .i64 0), .val (.string ⟨#[]⟩), .val (.string ⟨#[]⟩)] k = xs.map aF_.cells := bK_ _ _ (by simp; omega)
   rw [ff]
   exact bF_ (r := ⟨204, 9, xs.map aF_.cells⟩) rfl (by simp) (by intro e he; obtain ⟨x, _, q⟩ := mem_map.1 he; subst q; rfl)
theorem i4_ (xs : List aF_) (hb : (ac_ aF_.sz) xs ≤ 1048576) (h : List Row) : aa_ prog 150 [.list 0 9 (xs.map aF_.cells), .list 0 9 (xs.map aF_.cells)] h (.val (.bool true)) := by
 have hx := Nat.le_trans (aW_ (f := aF_.sz) (xs := xs)) hb
 refine ai_ mixed Tryz.func150 s0_ rfl rfl ?_ h
 simp (disch := omega) only [oG_, tQ_, ab_, go_sem, reduceEqDiff, reduceCtorEq, ↓reduceIte]
 refine aP_ (fun n t h => ∃ k : Nat, t 0 = .list 0 9 (xs.map aF_.cells) ∧ t 1 = .list 0 9 (xs.map aF_.cells) ∧ t 5 = .val (.int .i64 k) ∧ h = [] ∧ n = xs.length - k ∧ k ≤ xs.length) xs.length ?_ ?_
 ·exact ⟨0, rfl, rfl, rfl, rfl, rfl, Nat.zero_le _⟩
 ·rintro J hJ n t h ⟨k, t0, t1, t5, rfl, rfl, hk⟩
  by_cases hlt : k < xs.length
  ·simp (disch := omega) only [t0, t1, t5, hlt, aF_.cells, ab_, go_sem, reduceEqDiff, Nat.reduceAdd, reduceCtorEq, ↓reduceIte, af_]
   refine aa_.q (kC_ xs[k] (by have := a8_ (f := aF_.sz) (getElem_mem hlt); omega) _) ?_
   simp (disch := omega) only [go_sem]
   exact ⟨xs.length - (k + 1), by omega, hJ _ _ _ ⟨k + 1, by simp [upd, t0], by simp [upd, t1], by simp [upd], rfl, rfl, by omega⟩⟩
  ·simp (disch := omega) only [t0, t1, t5, hlt, ab_, go_sem, reduceEqDiff, reduceCtorEq, ↓reduceIte, af_]
   exact ae_ _ _
theorem lx_ (x : aG_) (l : Int) (h0 : 0 ≤ l) (h1 : l ≤ 1048576) (hw : aG_.wf x) (h : List Row) : aa_ prog 173 [.agg (aG_.cells x), .val (.int .i64 l)] h (.val (.int .i64 (szR (aG_.sz x) l))) := by
 obtain ⟨w_Name, w_Cell, _⟩ := hw
 have hsz : aG_.sz x = ByteArray.size x.Name := rfl
 refine ai_ mixed Tryz.func173 tP_ rfl rfl ?_ h
 unfold bf_ at w_Name
 simp (disch := omega) only [oS_, tH_, aG_.cells, ab_, go_sem, reduceEqDiff, Nat.reduceAdd, Int.reduceNeg, ↓reduceIte, af_]
 refine ⟨fun hn => ?_, fun hn_Name => ?_⟩
 ·rw [an_ (by omega)]; exact ae_ _ _
 try simp (disch := omega) only [af_]
 rw [aI_ (by omega), hsz]
 have hfin : l - ((ByteArray.size x.Name : Nat) : Int) = l - ByteArray.size x.Name := by omega
 rw [hfin]; exact ae_ _ _
theorem kO_ (x : aG_) (hb : aG_.sz x ≤ 1048576) (h : List Row) : aa_ prog 176 [.agg (aG_.cells x)] h (.agg (aG_.cells x)) := by
 have hsz : aG_.sz x = ByteArray.size x.Name := rfl
 refine ai_ mixed Tryz.func176 ur_ rfl rfl ?_ h
 simp (disch := omega) only [oP_, uX_, aG_.cells, go_sem, reduceEqDiff, Nat.reduceAdd, reduceLeDiff, ↓reduceIte, bu_]
 exact bk_ _ _ rfl
theorem kV_ (x : aG_) (hb : aG_.sz x ≤ 1048576) (h : List Row) : aa_ prog 179 [.agg (aG_.cells x), .agg (aG_.cells x)] h (.val (.bool true)) := by
 have hsz : aG_.sz x = ByteArray.size x.Name := rfl
 refine ai_ mixed Tryz.func179 r2_ rfl rfl ?_ h
 simp (disch := omega) only [pi_, rz_, aG_.cells, ab_, go_sem, reduceEqDiff, Nat.reduceAdd, ↓reduceIte]
 exact ae_ _ _
theorem gG_ (xs : List aG_) (l : Int) (h0 : 0 ≤ l) (h1 : l ≤ 1048576) (hw : a6_ aG_.wf xs) (h : List Row) : aa_ prog 157 [.list 0 2 (xs.map aG_.cells), .val (.int .i64 l)] h (.val (.int .i64 (szR (ac_ aG_.sz xs) l))) := by
 obtain ⟨hx, hs⟩ := hw
 refine ai_ mixed Tryz.func157 un_ rfl rfl ?_ h
 simp (disch := omega) only [pE_, sy_, ab_, go_sem, reduceEqDiff, reduceCtorEq, Int.reduceNeg, ↓reduceIte, af_]
 refine ⟨fun hn => ?_, fun hn => ?_⟩
 ·rw [an_ (by simp only [ac_]; omega)]; exact ae_ _ _
 ·refine aP_ (fun n t h => ∃ (k : Nat) (m : Int), t 0 = .list 0 2 (xs.map aG_.cells) ∧ t 5 = .val (.int .i64 k) ∧ t 1 = .val (.int .i64 m) ∧ h = [] ∧ n = xs.length - k ∧ k ≤ xs.length ∧ 0 ≤ m ∧ m ≤ 1048576 ∧ szR (ac_ aG_.sz xs) l = szR (bi_ aG_.sz (xs.drop k)) m) xs.length ?_ ?_
  ·exact ⟨0, l - xs.length, rfl, rfl, rfl, rfl, rfl, Nat.zero_le _, by omega, by omega, bo_ (by omega)⟩
  ·rintro J hJ n t h ⟨k, m, t0, t5, t1, rfl, rfl, hk, hm0, hm1, hS⟩
   by_cases hlt : k < xs.length
   ·have hd := bL_ aG_.sz xs k hlt
    have hwk := hs _ (getElem_mem hlt)
    rw [hd] at hS
    simp (disch := omega) only [t0, t5, t1, hlt, aG_.cells, ab_, go_sem, reduceEqDiff, Nat.reduceAdd, reduceCtorEq, Int.reduceNeg, ↓reduceIte]
    refine aa_.call (lx_ xs[k] m hm0 hm1 hwk []) ?_
    by_cases hc : (aG_.sz xs[k] : Int) ≤ m
    ·rw [aI_ (n := aG_.sz xs[k]) (l := m) hc]
     simp (disch := omega) only [t5, ab_, go_sem, reduceEqDiff, Int.reduceNeg, ↓reduceIte, af_]
     refine ⟨fun hn2 => absurd hn2 (by omega), fun _ => ?_⟩
     exact ⟨xs.length - (k + 1), by omega, hJ _ _ _ ⟨k + 1, m - aG_.sz xs[k], by simp [upd, t0], by simp [upd], by simp [upd], rfl, rfl, by omega, by omega, by omega, by rw [hS, bo_ (by omega)]⟩⟩
    ·rw [an_ (n := aG_.sz xs[k]) (l := m) (by omega)]
     simp (disch := omega) only [t5, ab_, go_sem, reduceEqDiff, Int.reduceNeg, ↓reduceIte, af_]
     rw [hS, an_ (by omega)]; exact ae_ _ _
   ·simp (disch := omega) only [t0, t5, t1, hlt, ab_, go_sem, reduceEqDiff, reduceCtorEq, Int.reduceNeg, ↓reduceIte]
    rw [hS, drop_eq_nil_of_le (by omega), aI_ (by simp only [bi_]; omega)]
    simp only [bi_, Int.natCast_zero, Int.sub_zero]
    exact ae_ _ _
theorem gv_ (xs : List aG_) (hb : (ac_ aG_.sz) xs ≤ 1048576) (h : List Row) : aa_ prog 164 [.list 0 2 (xs.map aG_.cells)] h (.list 0 2 (xs.map aG_.cells)) := by
 have hx := Nat.le_trans (aW_ (f := aG_.sz) (xs := xs)) hb
 refine ai_ mixed Tryz.func164 rF_ rfl rfl ?_ h
 simp (disch := omega) only [pn_, rr_, go_sem, reduceCtorEq, ↓reduceIte]
 refine ⟨by omega, by omega, ?_⟩
 refine aP_ (fun n t h => ∃ k : Nat, t 0 = .list 0 2 (xs.map aG_.cells) ∧ t 3 = .own 0 xs.length ∧ t 4 = .val (.int .i64 k) ∧ h = [⟨230, 2, a0_ (xs.map aG_.cells) [.val (.string ⟨#[]⟩), .val (.int .i64 0)] k⟩] ∧ n = xs.length - k ∧ k ≤ xs.length) xs.length ?_ ?_
 ·exact ⟨0, rfl, rfl, rfl, by rw [bA_]; simp, rfl, Nat.zero_le _⟩
 ·rintro J hJ n t h ⟨k, t0, t3, t4, rfl, rfl, hk⟩
  have fl : (a0_ (xs.map aG_.cells) [.val (.string ⟨#[]⟩), .val (.int .i64 0)] k).length = xs.length := by rw [br_ _ _ (by simpa using hk)]; simp
  by_cases hlt : k < xs.length
  ·have fg : (a0_ (xs.map aG_.cells) [.val (.string ⟨#[]⟩), .val (.int .i64 0)] k)[k]? = some [.val (.string ⟨#[]⟩), .val (.int .i64 0)] := bM_ _ _ (by simpa using hlt)
   have fs := bE_ (xs.map aG_.cells) [.val (.string ⟨#[]⟩), .val (.int .i64 0)] (aG_.cells xs[k]) (k := k) (by rw [getElem?_map, getElem?_eq_getElem hlt]; rfl)
   simp only [aG_.cells] at fs
   simp (disch := omega) only [t0, t3, t4, hlt, aG_.cells, ab_, go_sem, reduceEqDiff, Nat.reduceAdd, reduceCtorEq, ↓reduceIte]
   refine aa_.call (kO_ xs[k] (by have := a8_ (f := aG_.sz) (getElem_mem hlt); omega) _) ?_
   simp (disch := omega) only [t4, hlt, fl, fg, fs, aG_.cells, go_sem, reduceEqDiff, Nat.reduceAdd, ↓reduceIte, af_]
   exact ⟨xs.length - (k + 1), by omega, hJ _ _ _ ⟨k + 1, by simp [upd, t0], by simp [upd, t3], by simp [upd], rfl, rfl, by omega⟩⟩
  ·simp (disch := omega) only [t0, t3, t4, hlt, ab_, go_sem, reduceEqDiff, reduceCtorEq, ↓reduceIte]
   have ff : a0_ (xs.map aG_.cells) [.val (.string ⟨#[]⟩), .val (.int .i64 0)] k = xs.map aG_.cells := bK_ _ _ (by simp; omega)
   rw [ff]
   exact bF_ (r := ⟨230, 2, xs.map aG_.cells⟩) rfl (by simp) (by intro e he; obtain ⟨x, _, q⟩ := mem_map.1 he; subst q; rfl)
theorem gw_ (xs : List aG_) (hb : (ac_ aG_.sz) xs ≤ 1048576) (h : List Row) : aa_ prog 170 [.list 0 2 (xs.map aG_.cells), .list 0 2 (xs.map aG_.cells)] h (.val (.bool true)) := by
 have hx := Nat.le_trans (aW_ (f := aG_.sz) (xs := xs)) hb
 refine ai_ mixed Tryz.func170 qZ_ rfl rfl ?_ h
 simp (disch := omega) only [pd_, uJ_, ab_, go_sem, reduceEqDiff, reduceCtorEq, ↓reduceIte]
 refine aP_ (fun n t h => ∃ k : Nat, t 0 = .list 0 2 (xs.map aG_.cells) ∧ t 1 = .list 0 2 (xs.map aG_.cells) ∧ t 5 = .val (.int .i64 k) ∧ h = [] ∧ n = xs.length - k ∧ k ≤ xs.length) xs.length ?_ ?_
 ·exact ⟨0, rfl, rfl, rfl, rfl, rfl, Nat.zero_le _⟩
 ·rintro J hJ n t h ⟨k, t0, t1, t5, rfl, rfl, hk⟩
  by_cases hlt : k < xs.length
  ·simp (disch := omega) only [t0, t1, t5, hlt, aG_.cells, ab_, go_sem, reduceEqDiff, Nat.reduceAdd, reduceCtorEq, ↓reduceIte, af_]
   refine aa_.q (kV_ xs[k] (by have := a8_ (f := aG_.sz) (getElem_mem hlt); omega) _) ?_
   simp (disch := omega) only [go_sem]
   exact ⟨xs.length - (k + 1), by omega, hJ _ _ _ ⟨k + 1, by simp [upd, t0], by simp [upd, t1], by simp [upd], rfl, rfl, by omega⟩⟩
  ·simp (disch := omega) only [t0, t1, t5, hlt, ab_, go_sem, reduceEqDiff, reduceCtorEq, ↓reduceIte, af_]
   exact ae_ _ _
theorem li_ (x : aQ_) (l : Int) (h0 : 0 ≤ l) (h1 : l ≤ 1048576) (hw : aQ_.wf x) (h : List Row) : aa_ prog 90 [.agg (aQ_.cells x), .val (.int .i64 l)] h (.val (.int .i64 (szR (aQ_.sz x) l))) := by
 obtain ⟨w_Name, w_Subs, w_Value, _⟩ := hw
 have hsz : aQ_.sz x = ByteArray.size x.Name + (ac_ ByteArray.size) x.Subs + ByteArray.size x.Value := rfl
 refine ai_ mixed Tryz.func90 wq_ rfl rfl ?_ h
 unfold bf_ at w_Name
 unfold bf_ at w_Value
 simp (disch := omega) only [sV_, c90, aQ_.cells, ab_, go_sem, reduceEqDiff, Nat.reduceAdd, Int.reduceNeg, ↓reduceIte, af_]
 refine ⟨fun hn => ?_, fun hn_Name => ?_⟩
 ·rw [an_ (by omega)]; exact ae_ _ _
 try simp (disch := omega) only [af_]
 refine aa_.call (b9_ x.Subs (l - ByteArray.size x.Name) (by omega) (by omega) w_Subs _) ?_
 by_cases hn_Subs : ((ac_ ByteArray.size) x.Subs : Int) ≤ l - ByteArray.size x.Name
 case neg =>
  rw [an_ (n := (ac_ ByteArray.size) x.Subs) (l := l - ByteArray.size x.Name) (by omega)]
  simp (disch := omega) only [ab_, go_sem, reduceEqDiff, Int.reduceNeg, ↓reduceIte, af_]
  rw [an_ (by omega)]; exact ae_ _ _
 rw [aI_ (n := (ac_ ByteArray.size) x.Subs) (l := l - ByteArray.size x.Name) hn_Subs]
 simp (disch := omega) only [ab_, go_sem, reduceEqDiff, Int.reduceNeg, ↓reduceIte, af_]
 refine ⟨fun hn => absurd hn (by omega), fun _ => ?_⟩
 refine ⟨fun hn => ?_, fun hn_Value => ?_⟩
 ·rw [an_ (by omega)]; exact ae_ _ _
 try simp (disch := omega) only [af_]
 rw [aI_ (by omega), hsz]
 have hfin : l - ((ByteArray.size x.Name + (ac_ ByteArray.size) x.Subs + ByteArray.size x.Value : Nat) : Int) = l - ByteArray.size x.Name - (ac_ ByteArray.size) x.Subs - ByteArray.size x.Value := by omega
 rw [hfin]; exact ae_ _ _
theorem mk_ (x : aQ_) (hb : aQ_.sz x ≤ 1048576) (h : List Row) : aa_ prog 103 [.agg (aQ_.cells x)] h (.agg (aQ_.cells x)) := by
 have hsz : aQ_.sz x = ByteArray.size x.Name + (ac_ ByteArray.size) x.Subs + ByteArray.size x.Value := rfl
 refine ai_ mixed Tryz.func103 qK_ rfl rfl ?_ h
 simp (disch := omega) only [oW_, tw_, aQ_.cells, go_sem, reduceEqDiff, Nat.reduceAdd, reduceLeDiff, ↓reduceIte]
 refine aa_.call (cb_ x.Subs (by omega) _) ?_
 simp (disch := omega) only [go_sem, reduceEqDiff, Nat.reduceAdd, reduceLeDiff, ↓reduceIte, bu_]
 exact bk_ _ _ rfl
theorem lQ_ (x : aQ_) (hb : aQ_.sz x ≤ 1048576) (h : List Row) : aa_ prog 120 [.agg (aQ_.cells x), .agg (aQ_.cells x)] h (.val (.bool true)) := by
 have hsz : aQ_.sz x = ByteArray.size x.Name + (ac_ ByteArray.size) x.Subs + ByteArray.size x.Value := rfl
 refine ai_ mixed Tryz.func120 sW_ rfl rfl ?_ h
 simp (disch := omega) only [oK_, q9_, aQ_.cells, ab_, go_sem, reduceEqDiff, Nat.reduceAdd, ↓reduceIte]
 refine aa_.call (ca_ x.Subs (by omega) _) ?_
 simp (disch := omega) only [ab_, go_sem, reduceEqDiff, ↓reduceIte]
 exact ae_ _ _
theorem jP_ (xs : List aQ_) (l : Int) (h0 : 0 ≤ l) (h1 : l ≤ 1048576) (hw : a6_ aQ_.wf xs) (h : List Row) : aa_ prog 43 [.list 0 3 (xs.map aQ_.cells), .val (.int .i64 l)] h (.val (.int .i64 (szR (ac_ aQ_.sz xs) l))) := by
 obtain ⟨hx, hs⟩ := hw
 refine ai_ mixed Tryz.func43 vN_ rfl rfl ?_ h
 simp (disch := omega) only [so_, c43, ab_, go_sem, reduceEqDiff, reduceCtorEq, Int.reduceNeg, ↓reduceIte, af_]
 refine ⟨fun hn => ?_, fun hn => ?_⟩
 ·rw [an_ (by simp only [ac_]; omega)]; exact ae_ _ _
 ·refine aP_ (fun n t h => ∃ (k : Nat) (m : Int), t 0 = .list 0 3 (xs.map aQ_.cells) ∧ t 5 = .val (.int .i64 k) ∧ t 1 = .val (.int .i64 m) ∧ h = [] ∧ n = xs.length - k ∧ k ≤ xs.length ∧ 0 ≤ m ∧ m ≤ 1048576 ∧ szR (ac_ aQ_.sz xs) l = szR (bi_ aQ_.sz (xs.drop k)) m) xs.length ?_ ?_
  ·exact ⟨0, l - xs.length, rfl, rfl, rfl, rfl, rfl, Nat.zero_le _, by omega, by omega, bo_ (by omega)⟩
  ·rintro J hJ n t h ⟨k, m, t0, t5, t1, rfl, rfl, hk, hm0, hm1, hS⟩
   by_cases hlt : k < xs.length
   ·have hd := bL_ aQ_.sz xs k hlt
    have hwk := hs _ (getElem_mem hlt)
    rw [hd] at hS
    simp (disch := omega) only [t0, t5, t1, hlt, aQ_.cells, ab_, go_sem, reduceEqDiff, Nat.reduceAdd, reduceCtorEq, Int.reduceNeg, ↓reduceIte]
    refine aa_.call (li_ xs[k] m hm0 hm1 hwk []) ?_
    by_cases hc : (aQ_.sz xs[k] : Int) ≤ m
    ·rw [aI_ (n := aQ_.sz xs[k]) (l := m) hc]
     simp (disch := omega) only [t5, ab_, go_sem, reduceEqDiff, Int.reduceNeg, ↓reduceIte, af_]
     refine ⟨fun hn2 => absurd hn2 (by omega), fun _ => ?_⟩
     exact ⟨xs.length - (k + 1), by omega, hJ _ _ _ ⟨k + 1, m - aQ_.sz xs[k], by simp [upd, t0], by simp [upd], by simp [upd], rfl, rfl, by omega, by omega, by omega, by rw [hS, bo_ (by omega)]⟩⟩
    ·rw [an_ (n := aQ_.sz xs[k]) (l := m) (by omega)]
     simp (disch := omega) only [t5, ab_, go_sem, reduceEqDiff, Int.reduceNeg, ↓reduceIte, af_]
     rw [hS, an_ (by omega)]; exact ae_ _ _
   ·simp (disch := omega) only [t0, t5, t1, hlt, ab_, go_sem, reduceEqDiff, reduceCtorEq, Int.reduceNeg, ↓reduceIte]
    rw [hS, drop_eq_nil_of_le (by omega), aI_ (by simp only [bi_]; omega)]
    simp only [bi_, Int.natCast_zero, Int.sub_zero]
    exact ae_ _ _
theorem jH_ (xs : List aQ_) (hb : (ac_ aQ_.sz) xs ≤ 1048576) (h : List Row) : aa_ prog 57 [.list 0 3 (xs.map aQ_.cells)] h (.list 0 3 (xs.map aQ_.cells)) := by
 have hx := Nat.le_trans (aW_ (f := aQ_.sz) (xs := xs)) hb
 refine ai_ mixed Tryz.func57 vP_ rfl rfl ?_ h
 simp (disch := omega) only [qD_, c57, go_sem, reduceCtorEq, ↓reduceIte]
 refine ⟨by omega, by omega, ?_⟩
 refine aP_ (fun n t h => ∃ k : Nat, t 0 = .list 0 3 (xs.map aQ_.cells) ∧ t 3 = .own 0 xs.length ∧ t 4 = .val (.int .i64 k) ∧ h = [⟨134, 3, a0_ (xs.map aQ_.cells) [.val (.string ⟨#[]⟩), .val (.slice none 0 0), .val (.string ⟨#[]⟩)] k⟩] ∧ n = xs.length - k ∧ k ≤ xs.length) xs.length ?_ ?_
 ·exact ⟨0, rfl, rfl, rfl, by rw [bA_]; simp, rfl, Nat.zero_le _⟩
 ·rintro J hJ n t h ⟨k, t0, t3, t4, rfl, rfl, hk⟩
  have fl : (a0_ (xs.map aQ_.cells) [.val (.string ⟨#[]⟩), .val (.slice none 0 0), .val (.string ⟨#[]⟩)] k).length = xs.length := by rw [br_ _ _ (by simpa using hk)]; simp
  by_cases hlt : k < xs.length
  ·have fg : (a0_ (xs.map aQ_.cells) [.val (.string ⟨#[]⟩), .val (.slice none 0 0), .val (.string ⟨#[]⟩)] k)[k]? = some [.val (.string ⟨#[]⟩), .val (.slice none 0 0), .val (.string ⟨#[]⟩)] := bM_ _ _ (by simpa using hlt)
   have fs := bE_ (xs.map aQ_.cells) [.val (.string ⟨#[]⟩), .val (.slice none 0 0), .val (.string ⟨#[]⟩)] (aQ_.cells xs[k]) (k := k) (by rw [getElem?_map, getElem?_eq_getElem hlt]; rfl)
   simp only [aQ_.cells] at fs
   simp (disch := omega) only [t0, t3, t4, hlt, aQ_.cells, ab_, go_sem, reduceEqDiff, Nat.reduceAdd, reduceCtorEq, ↓reduceIte]
   refine aa_.call (mk_ xs[k] (by have := a8_ (f := aQ_.sz) (getElem_mem hlt); omega) _) ?_
   simp (disch := omega) only [t4, hlt, fl, fg, fs, aQ_.cells, go_sem, reduceEqDiff, Nat.reduceAdd, ↓reduceIte, af_]
   exact ⟨xs.length - (k + 1), by omega, hJ _ _ _ ⟨k + 1, by simp [upd, t0], by simp [upd, t3], by simp [upd], rfl, rfl, by omega⟩⟩
  ·simp (disch := omega) only [t0, t3, t4, hlt, ab_, go_sem, reduceEqDiff, reduceCtorEq, ↓reduceIte]
   have ff : a0_ (xs.map aQ_.cells) [.val (.string ⟨#[]⟩), .val (.slice none 0 0), .val (.string ⟨#[]⟩)] k = xs.map aQ_.cells := bK_ _ _ (by simp; omega)
   rw [ff]
   exact bF_ (r := ⟨134, 3, xs.map aQ_.cells⟩) rfl (by simp) (by intro e he; obtain ⟨x, _, q⟩ := mem_map.1 he; subst q; rfl)
theorem j6_ (xs : List aQ_) (hb : (ac_ aQ_.sz) xs ≤ 1048576) (h : List Row) : aa_ prog 82 [.list 0 3 (xs.map aQ_.cells), .list 0 3 (xs.map aQ_.cells)] h (.val (.bool true)) := by
 have hx := Nat.le_trans (aW_ (f := aQ_.sz) (xs := xs)) hb
 refine ai_ mixed Tryz.func82 vy_ rfl rfl ?_ h
 simp (disch := omega) only [rh_, c82, ab_, go_sem, reduceEqDiff, reduceCtorEq, ↓reduceIte]
 refine aP_ (fun n t h => ∃ k : Nat, t 0 = .list 0 3 (xs.map aQ_.cells) ∧ t 1 = .list 0 3 (xs.map aQ_.cells) ∧ t 5 = .val (.int .i64 k) ∧ h = [] ∧ n = xs.length - k ∧ k ≤ xs.length) xs.length ?_ ?_
 ·exact ⟨0, rfl, rfl, rfl, rfl, rfl, Nat.zero_le _⟩
 ·rintro J hJ n t h ⟨k, t0, t1, t5, rfl, rfl, hk⟩
  by_cases hlt : k < xs.length
  ·simp (disch := omega) only [t0, t1, t5, hlt, aQ_.cells, ab_, go_sem, reduceEqDiff, Nat.reduceAdd, reduceCtorEq, ↓reduceIte, af_]
   refine aa_.q (lQ_ xs[k] (by have := a8_ (f := aQ_.sz) (getElem_mem hlt); omega) _) ?_
   simp (disch := omega) only [go_sem]
   exact ⟨xs.length - (k + 1), by omega, hJ _ _ _ ⟨k + 1, by simp [upd, t0], by simp [upd, t1], by simp [upd], rfl, rfl, by omega⟩⟩
  ·simp (disch := omega) only [t0, t1, t5, hlt, ab_, go_sem, reduceEqDiff, reduceCtorEq, ↓reduceIte, af_]
   exact ae_ _ _
theorem hA_ (x : aZ_) (l : Int) (h0 : 0 ≤ l) (h1 : l ≤ 1048576) (hw : aZ_.wf x) (h : List Row) : aa_ prog 11 [.agg (aZ_.cells x), .val (.int .i64 l)] h (.val (.int .i64 (szR (aZ_.sz x) l))) := by
 obtain ⟨w_Nodes, _⟩ := hw
 have hsz : aZ_.sz x = (ac_ aQ_.sz) x.Nodes := rfl
 refine ai_ mixed Tryz.func11 vG_ rfl rfl ?_ h
 simp (disch := omega) only [uu_, c11, aZ_.cells, go_sem, reduceEqDiff, Int.reduceNeg, ↓reduceIte]
 refine aa_.call (jP_ x.Nodes (l) (by omega) (by omega) w_Nodes _) ?_
 by_cases hn_Nodes : ((ac_ aQ_.sz) x.Nodes : Int) ≤ l
 case neg =>
  rw [an_ (n := (ac_ aQ_.sz) x.Nodes) (l := l) (by omega)]
  simp (disch := omega) only [ab_, go_sem, reduceEqDiff, Int.reduceNeg, ↓reduceIte]
  rw [an_ (by omega)]; exact ae_ _ _
 rw [aI_ (n := (ac_ aQ_.sz) x.Nodes) (l := l) hn_Nodes]
 simp (disch := omega) only [ab_, go_sem, reduceEqDiff, Int.reduceNeg, ↓reduceIte]
 refine ⟨fun hn => absurd hn (by omega), fun _ => ?_⟩
 rw [aI_ (by omega), hsz]
 have hfin : l - (((ac_ aQ_.sz) x.Nodes : Nat) : Int) = l - (ac_ aQ_.sz) x.Nodes := by omega
 rw [hfin]; exact ae_ _ _
theorem hj_ (x : aZ_) (hb : aZ_.sz x ≤ 1048576) (h : List Row) : aa_ prog 23 [.agg (aZ_.cells x)] h (.agg (aZ_.cells x)) := by
 have hsz : aZ_.sz x = (ac_ aQ_.sz) x.Nodes := rfl
 refine ai_ mixed Tryz.func23 vF_ rfl rfl ?_ h
 simp (disch := omega) only [rC_, c23, aZ_.cells, go_sem, reduceEqDiff, Nat.reduceAdd, ↓reduceIte]
 refine aa_.call (jH_ x.Nodes (by omega) _) ?_
 simp (disch := omega) only [go_sem, reduceEqDiff, ↓reduceIte, bu_]
 exact bk_ _ _ rfl
theorem g8_ (x : aZ_) (hb : aZ_.sz x ≤ 1048576) (h : List Row) : aa_ prog 36 [.agg (aZ_.cells x), .agg (aZ_.cells x)] h (.val (.bool true)) := by
 have hsz : aZ_.sz x = (ac_ aQ_.sz) x.Nodes := rfl
 refine ai_ mixed Tryz.func36 vh_ rfl rfl ?_ h
 simp (disch := omega) only [rm_, c36, aZ_.cells, go_sem, reduceEqDiff, ↓reduceIte]
 refine aa_.call (j6_ x.Nodes (by omega) _) ?_
 simp (disch := omega) only [ab_, go_sem, ↓reduceIte]
 exact ae_ _ _
theorem mj_ (x : aM_) (l : Int) (h0 : 0 ≤ l) (h1 : l ≤ 1048576) (hw : aM_.wf x) (h : List Row) : aa_ prog 174 [.agg (aM_.cells x), .val (.int .i64 l)] h (.val (.int .i64 (szR (aM_.sz x) l))) := by
 obtain ⟨w_Id, w_Tree, _⟩ := hw
 have hsz : aM_.sz x = aZ_.sz x.Tree := rfl
 refine ai_ mixed Tryz.func174 si_ rfl rfl ?_ h
 simp (disch := omega) only [o8_, uO_, aM_.cells, go_sem, reduceEqDiff, Nat.reduceAdd, Int.reduceNeg, ↓reduceIte]
 refine aa_.call (hA_ x.Tree (l) (by omega) (by omega) w_Tree _) ?_
 by_cases hn_Tree : (aZ_.sz x.Tree : Int) ≤ l
 case neg =>
  rw [an_ (n := aZ_.sz x.Tree) (l := l) (by omega)]
  simp (disch := omega) only [ab_, go_sem, reduceEqDiff, Int.reduceNeg, ↓reduceIte]
  rw [an_ (by omega)]; exact ae_ _ _
 rw [aI_ (n := aZ_.sz x.Tree) (l := l) hn_Tree]
 simp (disch := omega) only [ab_, go_sem, reduceEqDiff, Int.reduceNeg, ↓reduceIte]
 refine ⟨fun hn => absurd hn (by omega), fun _ => ?_⟩
 rw [aI_ (by omega), hsz]
 have hfin : l - ((aZ_.sz x.Tree : Nat) : Int) = l - aZ_.sz x.Tree := by omega
 rw [hfin]; exact ae_ _ _
theorem lk_ (x : aM_) (hb : aM_.sz x ≤ 1048576) (h : List Row) : aa_ prog 177 [.agg (aM_.cells x)] h (.agg (aM_.cells x)) := by
 have hsz : aM_.sz x = aZ_.sz x.Tree := rfl
 refine ai_ mixed Tryz.func177 ug_ rfl rfl ?_ h
 simp (disch := omega) only [pQ_, q2_, aM_.cells, go_sem, reduceEqDiff, Nat.reduceAdd, reduceLeDiff, ↓reduceIte]
 refine aa_.call (hj_ x.Tree (by omega) _) ?_
 simp (disch := omega) only [aZ_.cells, go_sem, reduceEqDiff, Nat.reduceAdd, ↓reduceIte, bu_]
 exact bk_ _ _ rfl
theorem l4_ (x : aM_) (hb : aM_.sz x ≤ 1048576) (h : List Row) : aa_ prog 180 [.agg (aM_.cells x), .agg (aM_.cells x)] h (.val (.bool true)) := by
 have hsz : aM_.sz x = aZ_.sz x.Tree := rfl
 refine ai_ mixed Tryz.func180 tg_ rfl rfl ?_ h
 simp (disch := omega) only [pM_, sF_, aM_.cells, ab_, go_sem, reduceEqDiff, Nat.reduceAdd, ↓reduceIte]
 refine aa_.call (g8_ x.Tree (by omega) _) ?_
 simp (disch := omega) only [ab_, go_sem, ↓reduceIte]
 exact ae_ _ _
end Go.Proofs.YthahmhkbcdpkjaaGreat
