/-
 Contracts of functions. Conditions: as each theorem says.
-/
import Derived.Test.YthahmhkbcdpkjaaGreatGnAFnExactSameWorld
namespace Go.Proofs.YthahmhkbcdpkjaaGreat
open Tryz (prog)
open Nat (reduceEqDiff reduceLeDiff)
open List
open Go.AW
set_option linter.unusedVariables false
set_option linter.unusedSimpArgs false
set_option maxRecDepth 20000
def uc_ : LC :=
 .q [.o [.ki 4 0], .o [.m 6 1, .m 7 0, .ll 8 7, .bb 9 .sub false 6 8, .m 1 9], .q [.o [.m 10 1, .bk 11 .lss false 10 0], .k 11 (.q [.o [.s 4 (.mov (.const (.int .i64 (-1))))], .ret]) .skip], .q [.o [.ki 5 0], .block 0
 (.loop (.q [.q [.o [.m 12 5, .m 13 0, .ll 14 13, .bb 15 .lss false 12 14], .k 15 .skip (.exit 0)], .block 1 (.q [.o [.m 18 0, .m 19 5, .ia 20 2 18 19, .ld 21 2 20, .m 22 1, .c2 23 174 21 22, .m 1 23], .o [.m 24 1, .bk 25
 .lss false 24 0], .k 25 (.q [.o [.s 4 (.mov (.const (.int .i64 (-1))))], .ret]) .skip]), .o [.m 16 5, .bk 17 .add false 16 1, .m 5 17]]))], .o [.m 26 1, .m 4 26], .ret]
def pN_ : LF := ⟨2, 27, uc_, [.tmp 4]⟩
theorem uH_ : ax_ prog Tryz.f158 pN_ := al_
def sX_ : LC :=
 .q [.o [.nl 2], .o [.m 5 0, .ll 6 5, .s 7 (.mkSlice 224 2 32 z0z (.tmp 6) (.tmp 6)), .m 3 7], .q [.o [.ki 4 0], .block 0 (.loop (.q [.q [.o [.m 8 4, .m 9 0, .ll 10 9, .bb 11 .lss false 8 10], .k 11 .skip (.exit 0)],
 .block 1 (.o [.m 14 3, .m 15 4, .m 16 0, .m 17 4, .ia 18 2 16 17, .ld 19 2 18, .c1 20 177 19, .ia 21 2 14 15, .st 2 21 20]), .o [.m 12 4, .bk 13 .add false 12 1, .m 4 13]]))], .o [.m 22 3, .m 2 22], .ret]
def py_ : LF := ⟨1, 23, sX_, [.tmp 2]⟩
theorem tW_ : ax_ prog Tryz.f165 py_ := al_
def sz_ : LC :=
 .q [.o [.f 4], .q [.o [.m 6 0, .ll 7 6, .m 8 1, .ll 9 8, .bb 10 .neq false 7 9], .k 10 (.q [.o [.f 4], .ret]) .skip], .q [.o [.ki 5 0], .block 0 (.loop (.q [.q [.o [.m 11 5, .m 12 0, .ll 13 12, .bb 14 .lss false 11 13],
 .k 14 .skip (.exit 0)], .block 1 (.q [.dops [.m 17 0, .m 18 5, .ia 19 2 17 18, .ld 20 2 19, .m 21 1, .m 22 5, .ia 23 2 21 22, .ld 24 2 23, .c2 25 180 20 24, .nt 26 25], .k 26 (.q [.o [.f 4], .ret]) .skip]), .o [.m 15 5,
 .bk 16 .add false 15 1, .m 5 16]]))], .o [.t 4], .ret]
def oT_ : LF := ⟨2, 27, sz_, [.tmp 4]⟩
theorem tl_ : ax_ prog Tryz.f171 oT_ := al_
def ut_ : LC :=
 .q [.o [.bx 2 262 0, .ki 4 0], .o [.fa 5 0 2, .ln 6 5, .m 7 1, .c2 8 157 6 7, .m 1 8], .q [.o [.m 9 1, .bk 10 .lss false 9 0], .k 10 (.q [.o [.s 4 (.mov (.const (.int .i64 (-1))))], .ret]) .skip], .o [.m 11 1, .m 4 11],
 .ret]
def o3_ : LF := ⟨2, 12, ut_, [.tmp 4]⟩
theorem q3_ : ax_ prog Tryz.f175 o3_ := al_
def rZ_ : LC :=
 .q [.o [.bx 1 262 0, .s 2 (.alloc 227 z1z)], .o [.s 3 (.alloc 227 z1z)], .o [.fa 4 0 1, .ln 5 4, .c1 6 164 5, .fa 7 0 3, .st 1 7 6], .o [.ld 8 1 3, .st 1 2 8], .ret]
def pt_ : LF := ⟨1, 9, rZ_, [.cell 2 (some 1)]⟩
theorem sL_ : ax_ prog Tryz.f178 pt_ := al_
def rv_ : LC :=
 .q [.o [.bx 2 227 0, .bx 3 227 1, .f 4], .q [.o [.fa 5 0 2, .ln 6 5, .fa 7 0 3, .ln 8 7, .c2 9 170 6 8, .nt 10 9], .k 10 (.q [.o [.f 4], .ret]) .skip], .o [.t 4], .ret]
def pz_ : LF := ⟨2, 11, rv_, [.tmp 4]⟩
theorem uK_ : ax_ prog Tryz.f181 pz_ := al_
def sk_ : LC :=
 .q [.o [.ki 4 0], .o [.m 6 1, .m 7 0, .ll 8 7, .bb 9 .sub false 6 8, .m 1 9], .q [.o [.m 10 1, .bk 11 .lss false 10 0], .k 11 (.q [.o [.s 4 (.mov (.const (.int .i64 (-1))))], .ret]) .skip], .q [.o [.ki 5 0], .block 0
 (.loop (.q [.q [.o [.m 12 5, .m 13 0, .ll 14 13, .bb 15 .lss false 12 14], .k 15 .skip (.exit 0)], .block 1 (.q [.o [.m 18 0, .m 19 5, .ia 20 1 18 19, .ld 21 1 20, .m 22 1, .c2 23 175 21 22, .m 1 23], .o [.m 24 1, .bk 25
 .lss false 24 0], .k 25 (.q [.o [.s 4 (.mov (.const (.int .i64 (-1))))], .ret]) .skip]), .o [.m 16 5, .bk 17 .add false 16 1, .m 5 17]]))], .o [.m 26 1, .m 4 26], .ret]
def pj_ : LF := ⟨2, 27, sk_, [.tmp 4]⟩
theorem rD_ : ax_ prog Tryz.f159 pj_ := al_
def rg_ : LC :=
 .q [.o [.nl 2], .o [.m 5 0, .ll 6 5, .s 7 (.mkSlice 227 1 24 z1z (.tmp 6) (.tmp 6)), .m 3 7], .q [.o [.ki 4 0], .block 0 (.loop (.q [.q [.o [.m 8 4, .m 9 0, .ll 10 9, .bb 11 .lss false 8 10], .k 11 .skip (.exit 0)],
 .block 1 (.o [.m 14 3, .m 15 4, .m 16 0, .m 17 4, .ia 18 1 16 17, .ld 19 1 18, .c1 20 178 19, .ia 21 1 14 15, .st 1 21 20]), .o [.m 12 4, .bk 13 .add false 12 1, .m 4 13]]))], .o [.m 22 3, .m 2 22], .ret]
def pD_ : LF := ⟨1, 23, rg_, [.tmp 2]⟩
theorem tS_ : ax_ prog Tryz.f166 pD_ := al_
def qT_ : LC :=
 .q [.o [.f 4], .q [.o [.m 6 0, .ll 7 6, .m 8 1, .ll 9 8, .bb 10 .neq false 7 9], .k 10 (.q [.o [.f 4], .ret]) .skip], .q [.o [.ki 5 0], .block 0 (.loop (.q [.q [.o [.m 11 5, .m 12 0, .ll 13 12, .bb 14 .lss false 11 13],
 .k 14 .skip (.exit 0)], .block 1 (.q [.dops [.m 17 0, .m 18 5, .ia 19 1 17 18, .ld 20 1 19, .m 21 1, .m 22 5, .ia 23 1 21 22, .ld 24 1 23, .c2 25 181 20 24, .nt 26 25], .k 26 (.q [.o [.f 4], .ret]) .skip]), .o [.m 15 5,
 .bk 16 .add false 15 1, .m 5 16]]))], .o [.t 4], .ret]
def oY_ : LF := ⟨2, 27, qT_, [.tmp 4]⟩
theorem q5_ : ax_ prog Tryz.f172 oY_ := al_
def tm_ : LC :=
 .q [.o [.bx 2 114 0, .ki 4 0], .o [.fa 5 1 2, .ln 6 5, .m 7 1, .c2 8 157 6 7, .m 1 8], .q [.o [.m 9 1, .bk 10 .lss false 9 0], .k 10 (.q [.o [.s 4 (.mov (.const (.int .i64 (-1))))], .ret]) .skip], .o [.fa 11 2 2, .ln 12
 11, .m 13 1, .c2 14 158 12 13, .m 1 14], .q [.o [.m 15 1, .bk 16 .lss false 15 0], .k 16 (.q [.o [.s 4 (.mov (.const (.int .i64 (-1))))], .ret]) .skip], .o [.fa 17 3 2, .ln 18 17, .m 19 1, .c2 20 159 18 19, .m 1 20], .q
 [.o [.m 21 1, .bk 22 .lss false 21 0], .k 22 (.q [.o [.s 4 (.mov (.const (.int .i64 (-1))))], .ret]) .skip], .o [.m 23 1, .m 4 23], .ret]
def pI_ : LF := ⟨2, 24, tm_, [.tmp 4]⟩
theorem tN_ : ax_ prog Tryz.f130 pI_ := al_
def t4_ : LC :=
 .q [.o [.bx 1 114 0, .s 2 (.alloc 78 z4z)], .o [.s 3 (.alloc 78 z4z)], .o [.fa 4 0 1, .ln 5 4, .fa 6 0 3, .st 1 6 5], .o [.fa 7 1 1, .ln 8 7, .c1 9 164 8, .fa 10 1 3, .st 1 10 9], .o [.fa 11 2 1, .ln 12 11, .c1 13 165
 12, .fa 14 2 3, .st 1 14 13], .o [.fa 15 3 1, .ln 16 15, .c1 17 166 16, .fa 18 3 3, .st 1 18 17], .o [.ld 19 4 3, .st 4 2 19], .ret]
def oJ_ : LF := ⟨1, 20, t4_, [.cell 2 (some 4)]⟩
theorem qN_ : ax_ prog Tryz.f139 oJ_ := al_
def s3_ : LC :=
 .q [.o [.bx 2 78 0, .bx 3 78 1, .f 4], .q [.o [.fa 5 0 2, .ln 6 5, .fa 7 0 3, .ln 8 7, .bb 9 .neq false 6 8], .k 9 (.q [.o [.f 4], .ret]) .skip], .q [.o [.fa 10 1 2, .ln 11 10, .fa 12 1 3, .ln 13 12, .c2 14 170 11 13,
 .nt 15 14], .k 15 (.q [.o [.f 4], .ret]) .skip], .q [.o [.fa 16 2 2, .ln 17 16, .fa 18 2 3, .ln 19 18, .c2 20 171 17 19, .nt 21 20], .k 21 (.q [.o [.f 4], .ret]) .skip], .q [.o [.fa 22 3 2, .ln 23 22, .fa 24 3 3, .ln 25
 24, .c2 26 172 23 25, .nt 27 26], .k 27 (.q [.o [.f 4], .ret]) .skip], .o [.t 4], .ret]
def pv_ : LF := ⟨2, 28, s3_, [.tmp 4]⟩
theorem rA_ : ax_ prog Tryz.f151 pv_ := al_
def c93 : LC :=
 .q [.o [.bx 2 117 0, .ki 4 0], .o [.fa 5 2 2, .ln 6 5, .m 7 1, .c2 8 89 6 7, .m 1 8], .q [.o [.m 9 1, .bk 10 .lss false 9 0], .k 10 (.q [.o [.s 4 (.mov (.const (.int .i64 (-1))))], .ret]) .skip], .o [.fa 11 3 2, .ln 12
 11, .m 13 1, .c2 14 126 12 13, .m 1 14], .q [.o [.m 15 1, .bk 16 .lss false 15 0], .k 16 (.q [.o [.s 4 (.mov (.const (.int .i64 (-1))))], .ret]) .skip], .o [.fa 17 4 2, .ln 18 17, .m 19 1, .c2 20 127 18 19, .m 1 20], .q
 [.o [.m 21 1, .bk 22 .lss false 21 0], .k 22 (.q [.o [.s 4 (.mov (.const (.int .i64 (-1))))], .ret]) .skip], .o [.fa 23 5 2, .ln 24 23, .m 25 1, .c2 26 128 24 25, .m 1 26], .q [.o [.m 27 1, .bk 28 .lss false 27 0], .k 28
 (.q [.o [.s 4 (.mov (.const (.int .i64 (-1))))], .ret]) .skip], .o [.fa 29 6 2, .ln 30 29, .m 31 1, .c2 32 129 30 31, .m 1 32], .q [.o [.m 33 1, .bk 34 .lss false 33 0], .k 34 (.q [.o [.s 4 (.mov (.const (.int .i64
 (-1))))], .ret]) .skip], .o [.fa 35 7 2, .ld 36 4 35, .m 37 1, .c2 38 130 36 37, .m 1 38], .q [.o [.m 39 1, .bk 40 .lss false 39 0], .k 40 (.q [.o [.s 4 (.mov (.const (.int .i64 (-1))))], .ret]) .skip], .o [.fa 41 13 2,
 .ld 42 3 41, .m 43 1, .c2 44 131 42 43, .m 1 44], .q [.o [.m 45 1, .bk 46 .lss false 45 0], .k 46 (.q [.o [.s 4 (.mov (.const (.int .i64 (-1))))], .ret]) .skip], .o [.m 47 1, .fa 48 20 2, .ln 49 48, .s 50 (.lenStr (.tmp
 49)), .bb 51 .sub false 47 50, .m 1 51], .q [.o [.m 52 1, .bk 53 .lss false 52 0], .k 53 (.q [.o [.s 4 (.mov (.const (.int .i64 (-1))))], .ret]) .skip], .o [.m 54 1, .m 4 54], .ret]
def sT_ : LF := ⟨2, 55, c93, [.tmp 4]⟩
theorem vI_ : ax_ prog Tryz.f93 sT_ := al_
def t1_ : LC :=
 .q [.o [.bx 1 117 0, .s 2 (.alloc 82 (.agg #[.int .i64 0, .int .i64 0, .slice none 0 0, .slice none 0 0, .slice none 0 0, .slice none 0 0, .slice none 0 0, .int .i64 0, .slice none 0 0, .slice none 0 0, .slice none 0 0,
 .bool false, .bool false, .bool false, .string ⟨#[]⟩, .slice none 0 0, .int .i64 0, .int .i64 0, .int .i64 0, .int .i64 0, .string ⟨#[]⟩]))], .o [.s 3 (.alloc 82 (.agg #[.int .i64 0, .int .i64 0, .slice none 0 0, .slice
 none 0 0, .slice none 0 0, .slice none 0 0, .slice none 0 0, .int .i64 0, .slice none 0 0, .slice none 0 0, .slice none 0 0, .bool false, .bool false, .bool false, .string ⟨#[]⟩, .slice none 0 0, .int .i64 0, .int .i64
 0, .int .i64 0, .int .i64 0, .string ⟨#[]⟩]))], .o [.fa 4 0 1, .ln 5 4, .fa 6 0 3, .st 1 6 5], .o [.fa 7 1 1, .ln 8 7, .fa 9 1 3, .st 1 9 8], .o [.fa 10 2 1, .ln 11 10, .c1 12 102 11, .fa 13 2 3, .st 1 13 12], .o [.fa 14
 3 1, .ln 15 14, .c1 16 135 15, .fa 17 3 3, .st 1 17 16], .o [.fa 18 4 1, .ln 19 18, .c1 20 136 19, .fa 21 4 3, .st 1 21 20], .o [.fa 22 5 1, .ln 23 22, .c1 24 137 23, .fa 25 5 3, .st 1 25 24], .o [.fa 26 6 1, .ln 27 26,
 .c1 28 138 27, .fa 29 6 3, .st 1 29 28], .o [.fa 30 7 1, .ld 31 4 30, .c1 32 139 31, .fa 33 7 3, .st 4 33 32], .o [.fa 34 11 1, .ln 35 34, .fa 36 11 3, .st 1 36 35], .o [.fa 37 12 1, .ln 38 37, .fa 39 12 3, .st 1 39 38],
 .o [.fa 40 13 1, .ld 41 3 40, .c1 42 140 41, .fa 43 13 3, .st 3 43 42], .o [.fa 44 16 1, .ln 45 44, .fa 46 16 3, .st 1 46 45], .o [.fa 47 17 1, .ln 48 47, .fa 49 17 3, .st 1 49 48], .o [.fa 50 18 1, .ln 51 50, .fa 52 18
 3, .st 1 52 51], .o [.fa 53 19 1, .ln 54 53, .fa 55 19 3, .st 1 55 54], .o [.fa 56 20 1, .ln 57 56, .fa 58 20 3, .st 1 58 57], .o [.ld 59 21 3, .st 21 2 59], .ret]
def oR_ : LF := ⟨1, 60, t1_, [.cell 2 (some 21)]⟩
theorem te_ : ax_ prog Tryz.f106 oR_ := al_
def ry_ : LC :=
 .q [.o [.bx 2 82 0, .bx 3 82 1, .f 4], .q [.o [.fa 5 0 2, .ln 6 5, .fa 7 0 3, .ln 8 7, .bb 9 .neq false 6 8], .k 9 (.q [.o [.f 4], .ret]) .skip], .q [.o [.fa 10 1 2, .ln 11 10, .fa 12 1 3, .ln 13 12, .bb 14 .neq false 11
 13], .k 14 (.q [.o [.f 4], .ret]) .skip], .q [.o [.fa 15 2 2, .ln 16 15, .fa 17 2 3, .ln 18 17, .c2 19 119 16 18, .nt 20 19], .k 20 (.q [.o [.f 4], .ret]) .skip], .q [.o [.fa 21 3 2, .ln 22 21, .fa 23 3 3, .ln 24 23, .c2
 25 147 22 24, .nt 26 25], .k 26 (.q [.o [.f 4], .ret]) .skip], .q [.o [.fa 27 4 2, .ln 28 27, .fa 29 4 3, .ln 30 29, .c2 31 148 28 30, .nt 32 31], .k 32 (.q [.o [.f 4], .ret]) .skip], .q [.o [.fa 33 5 2, .ln 34 33, .fa
 35 5 3, .ln 36 35, .c2 37 149 34 36, .nt 38 37], .k 38 (.q [.o [.f 4], .ret]) .skip], .q [.o [.fa 39 6 2, .ln 40 39, .fa 41 6 3, .ln 42 41, .c2 43 150 40 42, .nt 44 43], .k 44 (.q [.o [.f 4], .ret]) .skip], .q [.o [.fa
 45 7 2, .ld 46 4 45, .fa 47 7 3, .ld 48 4 47, .c2 49 151 46 48, .nt 50 49], .k 50 (.q [.o [.f 4], .ret]) .skip], .q [.o [.fa 51 11 2, .ln 52 51, .fa 53 11 3, .ln 54 53, .bb 55 .neq true 52 54], .k 55 (.q [.o [.f 4],
 .ret]) .skip], .q [.o [.fa 56 12 2, .ln 57 56, .fa 58 12 3, .ln 59 58, .bb 60 .neq true 57 59], .k 60 (.q [.o [.f 4], .ret]) .skip], .q [.o [.fa 61 13 2, .ld 62 3 61, .fa 63 13 3, .ld 64 3 63, .c2 65 152 62 64, .nt 66
 65], .k 66 (.q [.o [.f 4], .ret]) .skip], .q [.o [.fa 67 16 2, .ln 68 67, .fa 69 16 3, .ln 70 69, .bb 71 .neq false 68 70], .k 71 (.q [.o [.f 4], .ret]) .skip], .q [.o [.fa 72 17 2, .ln 73 72, .fa 74 17 3, .ln 75 74, .bb
 76 .neq false 73 75], .k 76 (.q [.o [.f 4], .ret]) .skip], .q [.o [.fa 77 18 2, .ln 78 77, .fa 79 18 3, .ln 80 79, .bb 81 .neq false 78 80], .k 81 (.q [.o [.f 4], .ret]) .skip], .q [.o [.fa 82 19 2, .ln 83 82, .fa 84 19
 3, .ln 85 84, .bb 86 .neq false 83 85], .k 86 (.q [.o [.f 4], .ret]) .skip], .q [.o [.fa 87 20 2, .ln 88 87, .fa 89 20 3, .ln 90 89, .bb 91 .neq false 88 90], .k 91 (.q [.o [.f 4], .ret]) .skip], .o [.t 4], .ret]
def o2_ : LF := ⟨2, 92, ry_, [.tmp 4]⟩
theorem rX_ : ax_ prog Tryz.f123 o2_ := al_
def c87 : LC :=
 .q [.o [.bx 2 169 0, .ki 4 0], .o [.m 5 1, .fa 6 3 2, .ln 7 6, .s 8 (.lenStr (.tmp 7)), .bb 9 .sub false 5 8, .m 1 9], .q [.o [.m 10 1, .bk 11 .lss false 10 0], .k 11 (.q [.o [.s 4 (.mov (.const (.int .i64 (-1))))],
 .ret]) .skip], .o [.m 12 1, .m 4 12], .ret]
def qC_ : LF := ⟨2, 13, c87, [.tmp 4]⟩
theorem vd_ : ax_ prog Tryz.f87 qC_ := al_
def ue_ : LC :=
 .q [.o [.bx 1 169 0, .s 2 (.alloc 127 (.agg #[.int .i64 0, .int .i64 0, .int .i64 0, .string ⟨#[]⟩]))], .o [.s 3 (.alloc 127 (.agg #[.int .i64 0, .int .i64 0, .int .i64 0, .string ⟨#[]⟩]))], .o [.fa 4 0 1, .ln 5 4, .fa 6
 0 3, .st 1 6 5], .o [.fa 7 1 1, .ln 8 7, .fa 9 1 3, .st 1 9 8], .o [.fa 10 2 1, .ln 11 10, .fa 12 2 3, .st 1 12 11], .o [.fa 13 3 1, .ln 14 13, .fa 15 3 3, .st 1 15 14], .o [.ld 16 4 3, .st 4 2 16], .ret]
def o1_ : LF := ⟨1, 17, ue_, [.cell 2 (some 4)]⟩
theorem uM_ : ax_ prog Tryz.f100 o1_ := al_
def ss_ : LC :=
 .q [.o [.bx 2 127 0, .bx 3 127 1, .f 4], .q [.o [.fa 5 0 2, .ln 6 5, .fa 7 0 3, .ln 8 7, .bb 9 .neq false 6 8], .k 9 (.q [.o [.f 4], .ret]) .skip], .q [.o [.fa 10 1 2, .ln 11 10, .fa 12 1 3, .ln 13 12, .bb 14 .neq false
 11 13], .k 14 (.q [.o [.f 4], .ret]) .skip], .q [.o [.fa 15 2 2, .ln 16 15, .fa 17 2 3, .ln 18 17, .bb 19 .neq false 16 18], .k 19 (.q [.o [.f 4], .ret]) .skip], .q [.o [.fa 20 3 2, .ln 21 20, .fa 22 3 3, .ln 23 22, .bb
 24 .neq false 21 23], .k 24 (.q [.o [.f 4], .ret]) .skip], .o [.t 4], .ret]
def pu_ : LF := ⟨2, 25, ss_, [.tmp 4]⟩
theorem rf_ : ax_ prog Tryz.f117 pu_ := al_
def c40 : LC :=
 .q [.o [.ki 4 0], .o [.m 6 1, .m 7 0, .ll 8 7, .bb 9 .sub false 6 8, .m 1 9], .q [.o [.m 10 1, .bk 11 .lss false 10 0], .k 11 (.q [.o [.s 4 (.mov (.const (.int .i64 (-1))))], .ret]) .skip], .q [.o [.ki 5 0], .block 0
 (.loop (.q [.q [.o [.m 12 5, .m 13 0, .ll 14 13, .bb 15 .lss false 12 14], .k 15 .skip (.exit 0)], .block 1 (.q [.o [.m 18 0, .m 19 5, .ia 20 4 18 19, .ld 21 4 20, .m 22 1, .c2 23 87 21 22, .m 1 23], .o [.m 24 1, .bk 25
 .lss false 24 0], .k 25 (.q [.o [.s 4 (.mov (.const (.int .i64 (-1))))], .ret]) .skip]), .o [.m 16 5, .bk 17 .add false 16 1, .m 5 17]]))], .o [.m 26 1, .m 4 26], .ret]
def tA_ : LF := ⟨2, 27, c40, [.tmp 4]⟩
theorem wh_ : ax_ prog Tryz.f40 tA_ := al_
def c54 : LC :=
 .q [.o [.nl 2], .o [.m 5 0, .ll 6 5, .s 7 (.mkSlice 127 4 40 (.agg #[.int .i64 0, .int .i64 0, .int .i64 0, .string ⟨#[]⟩]) (.tmp 6) (.tmp 6)), .m 3 7], .q [.o [.ki 4 0], .block 0 (.loop (.q [.q [.o [.m 8 4, .m 9 0, .ll
 10 9, .bb 11 .lss false 8 10], .k 11 .skip (.exit 0)], .block 1 (.o [.m 14 3, .m 15 4, .m 16 0, .m 17 4, .ia 18 4 16 17, .ld 19 4 18, .c1 20 100 19, .ia 21 4 14 15, .st 4 21 20]), .o [.m 12 4, .bk 13 .add false 12 1, .m
 4 13]]))], .o [.m 22 3, .m 2 22], .ret]
def sv_ : LF := ⟨1, 23, c54, [.tmp 2]⟩
theorem u9_ : ax_ prog Tryz.f54 sv_ := al_
def c79 : LC :=
 .q [.o [.f 4], .q [.o [.m 6 0, .ll 7 6, .m 8 1, .ll 9 8, .bb 10 .neq false 7 9], .k 10 (.q [.o [.f 4], .ret]) .skip], .q [.o [.ki 5 0], .block 0 (.loop (.q [.q [.o [.m 11 5, .m 12 0, .ll 13 12, .bb 14 .lss false 11 13],
 .k 14 .skip (.exit 0)], .block 1 (.q [.dops [.m 17 0, .m 18 5, .ia 19 4 17 18, .ld 20 4 19, .m 21 1, .m 22 5, .ia 23 4 21 22, .ld 24 4 23, .c2 25 117 20 24, .nt 26 25], .k 26 (.q [.o [.f 4], .ret]) .skip]), .o [.m 15 5,
 .bk 16 .add false 15 1, .m 5 16]]))], .o [.t 4], .ret]
def rW_ : LF := ⟨2, 27, c79, [.tmp 4]⟩
theorem wr_ : ax_ prog Tryz.f79 rW_ := al_
def c91 : LC :=
 .q [.o [.bx 2 176 0, .ki 4 0], .o [.m 5 1, .fa 6 2 2, .ln 7 6, .s 8 (.lenStr (.tmp 7)), .bb 9 .sub false 5 8, .m 1 9], .q [.o [.m 10 1, .bk 11 .lss false 10 0], .k 11 (.q [.o [.s 4 (.mov (.const (.int .i64 (-1))))],
 .ret]) .skip], .o [.fa 12 3 2, .ln 13 12, .m 14 1, .c2 15 89 13 14, .m 1 15], .q [.o [.m 16 1, .bk 17 .lss false 16 0], .k 17 (.q [.o [.s 4 (.mov (.const (.int .i64 (-1))))], .ret]) .skip], .o [.m 18 1, .m 4 18], .ret]
def rn_ : LF := ⟨2, 19, c91, [.tmp 4]⟩
theorem v8_ : ax_ prog Tryz.f91 rn_ := al_
def s8_ : LC :=
 .q [.o [.bx 1 176 0, .s 2 (.alloc 136 (.agg #[.int .i64 0, .int .i64 0, .string ⟨#[]⟩, .slice none 0 0]))], .o [.s 3 (.alloc 136 (.agg #[.int .i64 0, .int .i64 0, .string ⟨#[]⟩, .slice none 0 0]))], .o [.fa 4 0 1, .ln 5
 4, .fa 6 0 3, .st 1 6 5], .o [.fa 7 1 1, .ln 8 7, .fa 9 1 3, .st 1 9 8], .o [.fa 10 2 1, .ln 11 10, .fa 12 2 3, .st 1 12 11], .o [.fa 13 3 1, .ln 14 13, .c1 15 102 14, .fa 16 3 3, .st 1 16 15], .o [.ld 17 4 3, .st 4 2
 17], .ret]
def pH_ : LF := ⟨1, 18, s8_, [.cell 2 (some 4)]⟩
theorem q8_ : ax_ prog Tryz.f104 pH_ := al_
def rL_ : LC :=
 .q [.o [.bx 2 136 0, .bx 3 136 1, .f 4], .q [.o [.fa 5 0 2, .ln 6 5, .fa 7 0 3, .ln 8 7, .bb 9 .neq false 6 8], .k 9 (.q [.o [.f 4], .ret]) .skip], .q [.o [.fa 10 1 2, .ln 11 10, .fa 12 1 3, .ln 13 12, .bb 14 .neq false
 11 13], .k 14 (.q [.o [.f 4], .ret]) .skip], .q [.o [.fa 15 2 2, .ln 16 15, .fa 17 2 3, .ln 18 17, .bb 19 .neq false 16 18], .k 19 (.q [.o [.f 4], .ret]) .skip], .q [.o [.fa 20 3 2, .ln 21 20, .fa 22 3 3, .ln 23 22, .c2
 24 119 21 23, .nt 25 24], .k 25 (.q [.o [.f 4], .ret]) .skip], .o [.t 4], .ret]
def o6_ : LF := ⟨2, 26, rL_, [.tmp 4]⟩
theorem sO_ : ax_ prog Tryz.f121 o6_ := al_
def c44 : LC :=
 .q [.o [.ki 4 0], .o [.m 6 1, .m 7 0, .ll 8 7, .bb 9 .sub false 6 8, .m 1 9], .q [.o [.m 10 1, .bk 11 .lss false 10 0], .k 11 (.q [.o [.s 4 (.mov (.const (.int .i64 (-1))))], .ret]) .skip], .q [.o [.ki 5 0], .block 0
 (.loop (.q [.q [.o [.m 12 5, .m 13 0, .ll 14 13, .bb 15 .lss false 12 14], .k 15 .skip (.exit 0)], .block 1 (.q [.o [.m 18 0, .m 19 5, .ia 20 4 18 19, .ld 21 4 20, .m 22 1, .c2 23 91 21 22, .m 1 23], .o [.m 24 1, .bk 25
 .lss false 24 0], .k 25 (.q [.o [.s 4 (.mov (.const (.int .i64 (-1))))], .ret]) .skip]), .o [.m 16 5, .bk 17 .add false 16 1, .m 5 17]]))], .o [.m 26 1, .m 4 26], .ret]
def q6_ : LF := ⟨2, 27, c44, [.tmp 4]⟩
theorem uZ_ : ax_ prog Tryz.f44 q6_ := al_
def c58 : LC :=
 .q [.o [.nl 2], .o [.m 5 0, .ll 6 5, .s 7 (.mkSlice 136 4 56 (.agg #[.int .i64 0, .int .i64 0, .string ⟨#[]⟩, .slice none 0 0]) (.tmp 6) (.tmp 6)), .m 3 7], .q [.o [.ki 4 0], .block 0 (.loop (.q [.q [.o [.m 8 4, .m 9 0,
 .ll 10 9, .bb 11 .lss false 8 10], .k 11 .skip (.exit 0)], .block 1 (.o [.m 14 3, .m 15 4, .m 16 0, .m 17 4, .ia 18 4 16 17, .ld 19 4 18, .c1 20 104 19, .ia 21 4 14 15, .st 4 21 20]), .o [.m 12 4, .bk 13 .add false 12 1,
 .m 4 13]]))], .o [.m 22 3, .m 2 22], .ret]
def rx_ : LF := ⟨1, 23, c58, [.tmp 2]⟩
theorem vj_ : ax_ prog Tryz.f58 rx_ := al_
def c83 : LC :=
 .q [.o [.f 4], .q [.o [.m 6 0, .ll 7 6, .m 8 1, .ll 9 8, .bb 10 .neq false 7 9], .k 10 (.q [.o [.f 4], .ret]) .skip], .q [.o [.ki 5 0], .block 0 (.loop (.q [.q [.o [.m 11 5, .m 12 0, .ll 13 12, .bb 14 .lss false 11 13],
 .k 14 .skip (.exit 0)], .block 1 (.q [.dops [.m 17 0, .m 18 5, .ia 19 4 17 18, .ld 20 4 19, .m 21 1, .m 22 5, .ia 23 4 21 22, .ld 24 4 23, .c2 25 121 20 24, .nt 26 25], .k 26 (.q [.o [.f 4], .ret]) .skip]), .o [.m 15 5,
 .bk 16 .add false 15 1, .m 5 16]]))], .o [.t 4], .ret]
def r1_ : LF := ⟨2, 27, c83, [.tmp 4]⟩
theorem vL_ : ax_ prog Tryz.f83 r1_ := al_
def sd_ : LC :=
 .q [.o [.bx 2 215 0, .ki 4 0], .o [.m 5 1, .fa 6 1 2, .ln 7 6, .s 8 (.lenStr (.tmp 7)), .bb 9 .sub false 5 8, .m 1 9], .q [.o [.m 10 1, .bk 11 .lss false 10 0], .k 11 (.q [.o [.s 4 (.mov (.const (.int .i64 (-1))))],
 .ret]) .skip], .o [.fa 12 2 2, .ln 13 12, .m 14 1, .c2 15 89 13 14, .m 1 15], .q [.o [.m 16 1, .bk 17 .lss false 16 0], .k 17 (.q [.o [.s 4 (.mov (.const (.int .i64 (-1))))], .ret]) .skip], .o [.m 18 1, .fa 19 3 2, .ln
 20 19, .s 21 (.lenStr (.tmp 20)), .bb 22 .sub false 18 21, .m 1 22], .q [.o [.m 23 1, .bk 24 .lss false 23 0], .k 24 (.q [.o [.s 4 (.mov (.const (.int .i64 (-1))))], .ret]) .skip], .o [.m 25 1, .m 4 25], .ret]
def pm_ : LF := ⟨2, 26, sd_, [.tmp 4]⟩
theorem tv_ : ax_ prog Tryz.f132 pm_ := al_
def tC_ : LC :=
 .q [.o [.bx 1 215 0, .s 2 (.alloc 184 (.agg #[.int .i64 0, .string ⟨#[]⟩, .slice none 0 0, .string ⟨#[]⟩, .int .i64 0]))], .o [.s 3 (.alloc 184 (.agg #[.int .i64 0, .string ⟨#[]⟩, .slice none 0 0, .string ⟨#[]⟩, .int
 .i64 0]))], .o [.fa 4 0 1, .ln 5 4, .fa 6 0 3, .st 1 6 5], .o [.fa 7 1 1, .ln 8 7, .fa 9 1 3, .st 1 9 8], .o [.fa 10 2 1, .ln 11 10, .c1 12 102 11, .fa 13 2 3, .st 1 13 12], .o [.fa 14 3 1, .ln 15 14, .fa 16 3 3, .st 1
 16 15], .o [.fa 17 4 1, .ln 18 17, .fa 19 4 3, .st 1 19 18], .o [.ld 20 5 3, .st 5 2 20], .ret]
def pk_ : LF := ⟨1, 21, tC_, [.cell 2 (some 5)]⟩
theorem rY_ : ax_ prog Tryz.f141 pk_ := al_
def rb_ : LC :=
 .q [.o [.bx 2 184 0, .bx 3 184 1, .f 4], .q [.o [.fa 5 0 2, .ln 6 5, .fa 7 0 3, .ln 8 7, .bb 9 .neq false 6 8], .k 9 (.q [.o [.f 4], .ret]) .skip], .q [.o [.fa 10 1 2, .ln 11 10, .fa 12 1 3, .ln 13 12, .bb 14 .neq false
 11 13], .k 14 (.q [.o [.f 4], .ret]) .skip], .q [.o [.fa 15 2 2, .ln 16 15, .fa 17 2 3, .ln 18 17, .c2 19 119 16 18, .nt 20 19], .k 20 (.q [.o [.f 4], .ret]) .skip], .q [.o [.fa 21 3 2, .ln 22 21, .fa 23 3 3, .ln 24 23,
 .bb 25 .neq false 22 24], .k 25 (.q [.o [.f 4], .ret]) .skip], .q [.o [.fa 26 4 2, .ln 27 26, .fa 28 4 3, .ln 29 28, .bb 30 .neq false 27 29], .k 30 (.q [.o [.f 4], .ret]) .skip], .o [.t 4], .ret]
def oO_ : LF := ⟨2, 31, rb_, [.tmp 4]⟩
theorem rP_ : ax_ prog Tryz.f153 oO_ := al_
def c95 : LC :=
 .q [.o [.ki 4 0], .o [.m 6 1, .m 7 0, .ll 8 7, .bb 9 .sub false 6 8, .m 1 9], .q [.o [.m 10 1, .bk 11 .lss false 10 0], .k 11 (.q [.o [.s 4 (.mov (.const (.int .i64 (-1))))], .ret]) .skip], .q [.o [.ki 5 0], .block 0
 (.loop (.q [.q [.o [.m 12 5, .m 13 0, .ll 14 13, .bb 15 .lss false 12 14], .k 15 .skip (.exit 0)], .block 1 (.q [.o [.m 18 0, .m 19 5, .ia 20 5 18 19, .ld 21 5 20, .m 22 1, .c2 23 132 21 22, .m 1 23], .o [.m 24 1, .bk 25
 .lss false 24 0], .k 25 (.q [.o [.s 4 (.mov (.const (.int .i64 (-1))))], .ret]) .skip]), .o [.m 16 5, .bk 17 .add false 16 1, .m 5 17]]))], .o [.m 26 1, .m 4 26], .ret]
def rU_ : LF := ⟨2, 27, c95, [.tmp 4]⟩
theorem wz_ : ax_ prog Tryz.f95 rU_ := al_
def sC_ : LC :=
 .q [.o [.nl 2], .o [.m 5 0, .ll 6 5, .s 7 (.mkSlice 184 5 72 (.agg #[.int .i64 0, .string ⟨#[]⟩, .slice none 0 0, .string ⟨#[]⟩, .int .i64 0]) (.tmp 6) (.tmp 6)), .m 3 7], .q [.o [.ki 4 0], .block 0 (.loop (.q [.q [.o
 [.m 8 4, .m 9 0, .ll 10 9, .bb 11 .lss false 8 10], .k 11 .skip (.exit 0)], .block 1 (.o [.m 14 3, .m 15 4, .m 16 0, .m 17 4, .ia 18 5 16 17, .ld 19 5 18, .c1 20 141 19, .ia 21 5 14 15, .st 5 21 20]), .o [.m 12 4, .bk 13
 .add false 12 1, .m 4 13]]))], .o [.m 22 3, .m 2 22], .ret]
def pT_ : LF := ⟨1, 23, sC_, [.tmp 2]⟩
theorem ub_ : ax_ prog Tryz.f108 pT_ := al_
def tt_ : LC :=
 .q [.o [.f 4], .q [.o [.m 6 0, .ll 7 6, .m 8 1, .ll 9 8, .bb 10 .neq false 7 9], .k 10 (.q [.o [.f 4], .ret]) .skip], .q [.o [.ki 5 0], .block 0 (.loop (.q [.q [.o [.m 11 5, .m 12 0, .ll 13 12, .bb 14 .lss false 11 13],
 .k 14 .skip (.exit 0)], .block 1 (.q [.dops [.m 17 0, .m 18 5, .ia 19 5 17 18, .ld 20 5 19, .m 21 1, .m 22 5, .ia 23 5 21 22, .ld 24 5 23, .c2 25 153 20 24, .nt 26 25], .k 26 (.q [.o [.f 4], .ret]) .skip]), .o [.m 15 5,
 .bk 16 .add false 15 1, .m 5 16]]))], .o [.t 4], .ret]
def ph_ : LF := ⟨2, 27, tt_, [.tmp 4]⟩
theorem uD_ : ax_ prog Tryz.f125 ph_ := al_
def c94 : LC :=
 .q [.o [.bx 2 120 0, .ki 4 0], .o [.fa 5 2 2, .ln 6 5, .m 7 1, .c2 8 95 6 7, .m 1 8], .q [.o [.m 9 1, .bk 10 .lss false 9 0], .k 10 (.q [.o [.s 4 (.mov (.const (.int .i64 (-1))))], .ret]) .skip], .o [.m 11 1, .m 4 11],
 .ret]
def uF_ : LF := ⟨2, 12, c94, [.tmp 4]⟩
theorem u1_ : ax_ prog Tryz.f94 uF_ := al_
def uj_ : LC :=
 .q [.o [.bx 1 120 0, .s 2 (.alloc 85 z5z)], .o [.s 3 (.alloc 85 z5z)], .o [.fa 4 0 1, .ln 5 4, .fa 6 0 3, .st 1 6 5], .o [.fa 7 1 1, .ln 8 7, .fa 9 1 3, .st 1 9 8], .o [.fa 10 2 1, .ln 11 10, .c1 12 108 11, .fa 13 2 3,
 .st 1 13 12], .o [.ld 14 3 3, .st 3 2 14], .ret]
def pK_ : LF := ⟨1, 15, uj_, [.cell 2 (some 3)]⟩
theorem sG_ : ax_ prog Tryz.f107 pK_ := al_
def tc_ : LC :=
 .q [.o [.bx 2 85 0, .bx 3 85 1, .f 4], .q [.o [.fa 5 0 2, .ln 6 5, .fa 7 0 3, .ln 8 7, .bb 9 .neq false 6 8], .k 9 (.q [.o [.f 4], .ret]) .skip], .q [.o [.fa 10 1 2, .ln 11 10, .fa 12 1 3, .ln 13 12, .bb 14 .neq false 11
 13], .k 14 (.q [.o [.f 4], .ret]) .skip], .q [.o [.fa 15 2 2, .ln 16 15, .fa 17 2 3, .ln 18 17, .c2 19 125 16 18, .nt 20 19], .k 20 (.q [.o [.f 4], .ret]) .skip], .o [.t 4], .ret]
def pC_ : LF := ⟨2, 21, tc_, [.tmp 4]⟩
theorem ui_ : ax_ prog Tryz.f124 pC_ := al_
def c41 : LC :=
 .q [.o [.ki 4 0], .o [.m 6 1, .m 7 0, .ll 8 7, .bb 9 .sub false 6 8, .m 1 9], .q [.o [.m 10 1, .bk 11 .lss false 10 0], .k 11 (.q [.o [.s 4 (.mov (.const (.int .i64 (-1))))], .ret]) .skip], .q [.o [.ki 5 0], .block 0
 (.loop (.q [.q [.o [.m 12 5, .m 13 0, .ll 14 13, .bb 15 .lss false 12 14], .k 15 .skip (.exit 0)], .block 1 (.q [.o [.m 18 0, .m 19 5, .ia 20 4 18 19, .ld 21 4 20, .m 22 1, .c2 23 88 21 22, .m 1 23], .o [.m 24 1, .bk 25
 .lss false 24 0], .k 25 (.q [.o [.s 4 (.mov (.const (.int .i64 (-1))))], .ret]) .skip]), .o [.m 16 5, .bk 17 .add false 16 1, .m 5 17]]))], .o [.m 26 1, .m 4 26], .ret]
def su_ : LF := ⟨2, 27, c41, [.tmp 4]⟩
theorem u5_ : ax_ prog Tryz.f41 su_ := al_
def c55 : LC :=
 .q [.o [.nl 2], .o [.m 5 0, .ll 6 5, .s 7 (.mkSlice 129 4 64 (.agg #[.string ⟨#[]⟩, .string ⟨#[]⟩, .int .i64 0, .slice none 0 0]) (.tmp 6) (.tmp 6)), .m 3 7], .q [.o [.ki 4 0], .block 0 (.loop (.q [.q [.o [.m 8 4, .m 9
 0, .ll 10 9, .bb 11 .lss false 8 10], .k 11 .skip (.exit 0)], .block 1 (.o [.m 14 3, .m 15 4, .m 16 0, .m 17 4, .ia 18 4 16 17, .ld 19 4 18, .c1 20 101 19, .ia 21 4 14 15, .st 4 21 20]), .o [.m 12 4, .bk 13 .add false 12
 1, .m 4 13]]))], .o [.m 22 3, .m 2 22], .ret]
def q1_ : LF := ⟨1, 23, c55, [.tmp 2]⟩
theorem vS_ : ax_ prog Tryz.f55 q1_ := al_
def c80 : LC :=
 .q [.o [.f 4], .q [.o [.m 6 0, .ll 7 6, .m 8 1, .ll 9 8, .bb 10 .neq false 7 9], .k 10 (.q [.o [.f 4], .ret]) .skip], .q [.o [.ki 5 0], .block 0 (.loop (.q [.q [.o [.m 11 5, .m 12 0, .ll 13 12, .bb 14 .lss false 11 13],
 .k 14 .skip (.exit 0)], .block 1 (.q [.dops [.m 17 0, .m 18 5, .ia 19 4 17 18, .ld 20 4 19, .m 21 1, .m 22 5, .ia 23 4 21 22, .ld 24 4 23, .c2 25 118 20 24, .nt 26 25], .k 26 (.q [.o [.f 4], .ret]) .skip]), .o [.m 15 5,
 .bk 16 .add false 15 1, .m 5 16]]))], .o [.t 4], .ret]
def se_ : LF := ⟨2, 27, c80, [.tmp 4]⟩
theorem wm_ : ax_ prog Tryz.f80 se_ := al_
theorem kj_ (xs : List aM_) (l : Int) (h0 : 0 ≤ l) (h1 : l ≤ 1048576) (hw : a6_ aM_.wf xs) (h : List Row) : aa_ prog 158 [.list 0 2 (xs.map aM_.cells), .val (.int .i64 l)] h (.val (.int .i64 (szR (ac_ aM_.sz xs) l))) := by
 obtain ⟨hx, hs⟩ := hw
 refine ai_ mixed Tryz.func158 uH_ rfl rfl ?_ h
 simp (disch := omega) only [pN_, uc_, ab_, go_sem, reduceEqDiff, reduceCtorEq, Int.reduceNeg, ↓reduceIte, af_]
 refine ⟨fun hn => ?_, fun hn => ?_⟩
 ·rw [an_ (by simp only [ac_]; omega)]; exact ae_ _ _
 ·refine aP_ (fun n t h => ∃ (k : Nat) (m : Int), t 0 = .list 0 2 (xs.map aM_.cells) ∧ t 5 = .val (.int .i64 k) ∧ t 1 = .val (.int .i64 m) ∧ h = [] ∧ n = xs.length - k ∧ k ≤ xs.length ∧ 0 ≤ m ∧ m ≤ 1048576 ∧ szR (ac_ aM_.sz xs) l = szR (bi_ aM_.sz (xs.drop k)) m) xs.length ?_ ?_
  ·exact ⟨0, l - xs.length, rfl, rfl, rfl, rfl, rfl, Nat.zero_le _, by omega, by omega, bo_ (by omega)⟩
  ·rintro J hJ n t h ⟨k, m, t0, t5, t1, rfl, rfl, hk, hm0, hm1, hS⟩
   by_cases hlt : k < xs.length
   ·have hd := bL_ aM_.sz xs k hlt
    have hwk := hs _ (getElem_mem hlt)
    rw [hd] at hS
    simp (disch := omega) only [t0, t5, t1, hlt, aM_.cells, ab_, go_sem, reduceEqDiff, Nat.reduceAdd, reduceCtorEq, Int.reduceNeg, ↓reduceIte]
    refine aa_.call (mj_ xs[k] m hm0 hm1 hwk []) ?_
    by_cases hc : (aM_.sz xs[k] : Int) ≤ m
    ·rw [aI_ (n := aM_.sz xs[k]) (l := m) hc]
     simp (disch := omega) only [t5, ab_, go_sem, reduceEqDiff, Int.reduceNeg, ↓reduceIte, af_]
     refine ⟨fun hn2 => absurd hn2 (by omega), fun _ => ?_⟩
     exact ⟨xs.length - (k + 1), by omega, hJ _ _ _ ⟨k + 1, m - aM_.sz xs[k], by simp [upd, t0], by simp [upd], by simp [upd], rfl, rfl, by omega, by omega, by omega, by rw [hS, bo_ (by omega)]⟩⟩
    ·rw [an_ (n := aM_.sz xs[k]) (l := m) (by omega)]
     simp (disch := omega) only [t5, ab_, go_sem, reduceEqDiff, Int.reduceNeg, ↓reduceIte, af_]
     rw [hS, an_ (by omega)]; exact ae_ _ _
   ·simp (disch := omega) only [t0, t5, t1, hlt, ab_, go_sem, reduceEqDiff, reduceCtorEq, Int.reduceNeg, ↓reduceIte]
    rw [hS, drop_eq_nil_of_le (by omega), aI_ (by simp only [bi_]; omega)]
    simp only [bi_, Int.natCast_zero, Int.sub_zero]
    exact ae_ _ _
theorem j9_ (xs : List aM_) (hb : (ac_ aM_.sz) xs ≤ 1048576) (h : List Row) : aa_ prog 165 [.list 0 2 (xs.map aM_.cells)] h (.list 0 2 (xs.map aM_.cells)) := by
 have hx := Nat.le_trans (aW_ (f := aM_.sz) (xs := xs)) hb
 refine ai_ mixed Tryz.func165 tW_ rfl rfl ?_ h
 simp (disch := omega) only [py_, sX_, go_sem, reduceCtorEq, ↓reduceIte]
 refine ⟨by omega, by omega, ?_⟩
 refine aP_ (fun n t h => ∃ k : Nat, t 0 = .list 0 2 (xs.map aM_.cells) ∧ t 3 = .own 0 xs.length ∧ t 4 = .val (.int .i64 k) ∧ h = [⟨224, 2, a0_ (xs.map aM_.cells) [.val (.int .i64 0), .val (.slice none 0 0)] k⟩] ∧ n = xs.length - k ∧ k ≤ xs.length) xs.length ?_ ?_
 ·exact ⟨0, rfl, rfl, rfl, by rw [bA_]; simp, rfl, Nat.zero_le _⟩
 ·rintro J hJ n t h ⟨k, t0, t3, t4, rfl, rfl, hk⟩
  have fl : (a0_ (xs.map aM_.cells) [.val (.int .i64 0), .val (.slice none 0 0)] k).length = xs.length := by rw [br_ _ _ (by simpa using hk)]; simp
  by_cases hlt : k < xs.length
  ·have fg : (a0_ (xs.map aM_.cells) [.val (.int .i64 0), .val (.slice none 0 0)] k)[k]? = some [.val (.int .i64 0), .val (.slice none 0 0)] := bM_ _ _ (by simpa using hlt)
   have fs := bE_ (xs.map aM_.cells) [.val (.int .i64 0), .val (.slice none 0 0)] (aM_.cells xs[k]) (k := k) (by rw [getElem?_map, getElem?_eq_getElem hlt]; rfl)
   simp only [aM_.cells] at fs
   simp (disch := omega) only [t0, t3, t4, hlt, aM_.cells, ab_, go_sem, reduceEqDiff, Nat.reduceAdd, reduceCtorEq, ↓reduceIte]
   refine aa_.call (lk_ xs[k] (by have := a8_ (f := aM_.sz) (getElem_mem hlt); omega) _) ?_
   simp (disch := omega) only [t4, hlt, fl, fg, fs, aM_.cells, go_sem, reduceEqDiff, Nat.reduceAdd, ↓reduceIte, af_]
   exact ⟨xs.length - (k + 1), by omega, hJ _ _ _ ⟨k + 1, by simp [upd, t0], by simp [upd, t3], by simp [upd], rfl, rfl, by omega⟩⟩
  ·simp (disch := omega) only [t0, t3, t4, hlt, ab_, go_sem, reduceEqDiff, reduceCtorEq, ↓reduceIte]
   have ff : a0_ (xs.map aM_.cells) [.val (.int .i64 0), .val (.slice none 0 0)] k = xs.map aM_.cells := bK_ _ _ (by simp; omega)
   rw [ff]
   exact bF_ (r := ⟨224, 2, xs.map aM_.cells⟩) rfl (by simp) (by intro e he; obtain ⟨x, _, q⟩ := mem_map.1 he; subst q; rfl)
theorem j1_ (xs : List aM_) (hb : (ac_ aM_.sz) xs ≤ 1048576) (h : List Row) : aa_ prog 171 [.list 0 2 (xs.map aM_.cells), .list 0 2 (xs.map aM_.cells)] h (.val (.bool true)) := by
 have hx := Nat.le_trans (aW_ (f := aM_.sz) (xs := xs)) hb
 refine ai_ mixed Tryz.func171 tl_ rfl rfl ?_ h
 simp (disch := omega) only [oT_, sz_, ab_, go_sem, reduceEqDiff, reduceCtorEq, ↓reduceIte]
 refine aP_ (fun n t h => ∃ k : Nat, t 0 = .list 0 2 (xs.map aM_.cells) ∧ t 1 = .list 0 2 (xs.map aM_.cells) ∧ t 5 = .val (.int .i64 k) ∧ h = [] ∧ n = xs.length - k ∧ k ≤ xs.length) xs.length ?_ ?_
 ·exact ⟨0, rfl, rfl, rfl, rfl, rfl, Nat.zero_le _⟩
 ·rintro J hJ n t h ⟨k, t0, t1, t5, rfl, rfl, hk⟩
  by_cases hlt : k < xs.length
  ·simp (disch := omega) only [t0, t1, t5, hlt, aM_.cells, ab_, go_sem, reduceEqDiff, Nat.reduceAdd, reduceCtorEq, ↓reduceIte, af_]
   refine aa_.q (l4_ xs[k] (by have := a8_ (f := aM_.sz) (getElem_mem hlt); omega) _) ?_
   simp (disch := omega) only [go_sem]
   exact ⟨xs.length - (k + 1), by omega, hJ _ _ _ ⟨k + 1, by simp [upd, t0], by simp [upd, t1], by simp [upd], rfl, rfl, by omega⟩⟩
  ·simp (disch := omega) only [t0, t1, t5, hlt, ab_, go_sem, reduceEqDiff, reduceCtorEq, ↓reduceIte, af_]
   exact ae_ _ _
theorem jo_ (x : aw_) (l : Int) (h0 : 0 ≤ l) (h1 : l ≤ 1048576) (hw : aw_.wf x) (h : List Row) : aa_ prog 175 [.agg (aw_.cells x), .val (.int .i64 l)] h (.val (.int .i64 (szR (aw_.sz x) l))) := by
 obtain ⟨w_Saved, _⟩ := hw
 have hsz : aw_.sz x = (ac_ aG_.sz) x.Saved := rfl
 refine ai_ mixed Tryz.func175 q3_ rfl rfl ?_ h
 simp (disch := omega) only [o3_, ut_, aw_.cells, go_sem, reduceEqDiff, Int.reduceNeg, ↓reduceIte]
 refine aa_.call (gG_ x.Saved (l) (by omega) (by omega) w_Saved _) ?_
 by_cases hn_Saved : ((ac_ aG_.sz) x.Saved : Int) ≤ l
 case neg =>
  rw [an_ (n := (ac_ aG_.sz) x.Saved) (l := l) (by omega)]
  simp (disch := omega) only [ab_, go_sem, reduceEqDiff, Int.reduceNeg, ↓reduceIte]
  rw [an_ (by omega)]; exact ae_ _ _
 rw [aI_ (n := (ac_ aG_.sz) x.Saved) (l := l) hn_Saved]
 simp (disch := omega) only [ab_, go_sem, reduceEqDiff, Int.reduceNeg, ↓reduceIte]
 refine ⟨fun hn => absurd hn (by omega), fun _ => ?_⟩
 rw [aI_ (by omega), hsz]
 have hfin : l - (((ac_ aG_.sz) x.Saved : Nat) : Int) = l - (ac_ aG_.sz) x.Saved := by omega
 rw [hfin]; exact ae_ _ _
theorem j7_ (x : aw_) (hb : aw_.sz x ≤ 1048576) (h : List Row) : aa_ prog 178 [.agg (aw_.cells x)] h (.agg (aw_.cells x)) := by
 have hsz : aw_.sz x = (ac_ aG_.sz) x.Saved := rfl
 refine ai_ mixed Tryz.func178 sL_ rfl rfl ?_ h
 simp (disch := omega) only [pt_, rZ_, aw_.cells, go_sem, reduceEqDiff, Nat.reduceAdd, ↓reduceIte]
 refine aa_.call (gv_ x.Saved (by omega) _) ?_
 simp (disch := omega) only [go_sem, reduceEqDiff, ↓reduceIte, bu_]
 exact bk_ _ _ rfl
theorem kk_ (x : aw_) (hb : aw_.sz x ≤ 1048576) (h : List Row) : aa_ prog 181 [.agg (aw_.cells x), .agg (aw_.cells x)] h (.val (.bool true)) := by
 have hsz : aw_.sz x = (ac_ aG_.sz) x.Saved := rfl
 refine ai_ mixed Tryz.func181 uK_ rfl rfl ?_ h
 simp (disch := omega) only [pz_, rv_, aw_.cells, go_sem, reduceEqDiff, ↓reduceIte]
 refine aa_.call (gw_ x.Saved (by omega) _) ?_
 simp (disch := omega) only [ab_, go_sem, ↓reduceIte]
 exact ae_ _ _
theorem iG_ (xs : List aw_) (l : Int) (h0 : 0 ≤ l) (h1 : l ≤ 1048576) (hw : a6_ aw_.wf xs) (h : List Row) : aa_ prog 159 [.list 0 1 (xs.map aw_.cells), .val (.int .i64 l)] h (.val (.int .i64 (szR (ac_ aw_.sz xs) l))) := by
 obtain ⟨hx, hs⟩ := hw
 refine ai_ mixed Tryz.func159 rD_ rfl rfl ?_ h
 simp (disch := omega) only [pj_, sk_, ab_, go_sem, reduceEqDiff, reduceCtorEq, Int.reduceNeg, ↓reduceIte, af_]
 refine ⟨fun hn => ?_, fun hn => ?_⟩
 ·rw [an_ (by simp only [ac_]; omega)]; exact ae_ _ _
 ·refine aP_ (fun n t h => ∃ (k : Nat) (m : Int), t 0 = .list 0 1 (xs.map aw_.cells) ∧ t 5 = .val (.int .i64 k) ∧ t 1 = .val (.int .i64 m) ∧ h = [] ∧ n = xs.length - k ∧ k ≤ xs.length ∧ 0 ≤ m ∧ m ≤ 1048576 ∧ szR (ac_ aw_.sz xs) l = szR (bi_ aw_.sz (xs.drop k)) m) xs.length ?_ ?_
  ·exact ⟨0, l - xs.length, rfl, rfl, rfl, rfl, rfl, Nat.zero_le _, by omega, by omega, bo_ (by omega)⟩
  ·rintro J hJ n t h ⟨k, m, t0, t5, t1, rfl, rfl, hk, hm0, hm1, hS⟩
   by_cases hlt : k < xs.length
   ·have hd := bL_ aw_.sz xs k hlt
    have hwk := hs _ (getElem_mem hlt)
    rw [hd] at hS
    simp (disch := omega) only [t0, t5, t1, hlt, aw_.cells, ab_, go_sem, reduceEqDiff, reduceCtorEq, Int.reduceNeg, ↓reduceIte]
    refine aa_.call (jo_ xs[k] m hm0 hm1 hwk []) ?_
    by_cases hc : (aw_.sz xs[k] : Int) ≤ m
    ·rw [aI_ (n := aw_.sz xs[k]) (l := m) hc]
     simp (disch := omega) only [t5, ab_, go_sem, reduceEqDiff, Int.reduceNeg, ↓reduceIte, af_]
     refine ⟨fun hn2 => absurd hn2 (by omega), fun _ => ?_⟩
     exact ⟨xs.length - (k + 1), by omega, hJ _ _ _ ⟨k + 1, m - aw_.sz xs[k], by simp [upd, t0], by simp [upd], by simp [upd], rfl, rfl, by omega, by omega, by omega, by rw [hS, bo_ (by omega)]⟩⟩
    ·rw [an_ (n := aw_.sz xs[k]) (l := m) (by omega)]
     simp (disch := omega) only [t5, ab_, go_sem, reduceEqDiff, Int.reduceNeg, ↓reduceIte, af_]
     rw [hS, an_ (by omega)]; exact ae_ _ _
   ·simp (disch := omega) only [t0, t5, t1, hlt, ab_, go_sem, reduceEqDiff, reduceCtorEq, Int.reduceNeg, ↓reduceIte]
    rw [hS, drop_eq_nil_of_le (by omega), aI_ (by simp only [bi_]; omega)]
    simp only [bi_, Int.natCast_zero, Int.sub_zero]
    exact ae_ _ _
theorem iX_ (xs : List aw_) (hb : (ac_ aw_.sz) xs ≤ 1048576) (h : List Row) : aa_ prog 166 [.list 0 1 (xs.map aw_.cells)] h (.list 0 1 (xs.map aw_.cells)) := by
 have hx := Nat.le_trans (aW_ (f := aw_.sz) (xs := xs)) hb
 refine ai_ mixed Tryz.func166 tS_ rfl rfl ?_ h
 simp (disch := omega) only [pD_, rg_, go_sem, reduceCtorEq, ↓reduceIte]
 refine ⟨by omega, by omega, ?_⟩
 refine aP_ (fun n t h => ∃ k : Nat, t 0 = .list 0 1 (xs.map aw_.cells) ∧ t 3 = .own 0 xs.length ∧ t 4 = .val (.int .i64 k) ∧ h = [⟨227, 1, a0_ (xs.map aw_.cells) [.val (.slice none 0 0)] k⟩] ∧ n = xs.length - k ∧ k ≤ xs.length) xs.length ?_ ?_
 ·exact ⟨0, rfl, rfl, rfl, by rw [bA_]; simp, rfl, Nat.zero_le _⟩
 ·rintro J hJ n t h ⟨k, t0, t3, t4, rfl, rfl, hk⟩
  have fl : (a0_ (xs.map aw_.cells) [.val (.slice none 0 0)] k).length = xs.length := by rw [br_ _ _ (by simpa using hk)]; simp
  by_cases hlt : k < xs.length
  ·have fg : (a0_ (xs.map aw_.cells) [.val (.slice none 0 0)] k)[k]? = some [.val (.slice none 0 0)] := bM_ _ _ (by simpa using hlt)
   have fs := bE_ (xs.map aw_.cells) [.val (.slice none 0 0)] (aw_.cells xs[k]) (k := k) (by rw [getElem?_map, getElem?_eq_getElem hlt]; rfl)
   simp only [aw_.cells] at fs
   simp (disch := omega) only [t0, t3, t4, hlt, aw_.cells, ab_, go_sem, reduceEqDiff, reduceCtorEq, ↓reduceIte]
   refine aa_.call (j7_ xs[k] (by have := a8_ (f := aw_.sz) (getElem_mem hlt); omega) _) ?_
   simp (disch := omega) only [t4, hlt, fl, fg, fs, aw_.cells, go_sem, reduceEqDiff, ↓reduceIte, af_]
   exact ⟨xs.length - (k + 1), by omega, hJ _ _ _ ⟨k + 1, by simp [upd, t0], by simp [upd, t3], by simp [upd], rfl, rfl, by omega⟩⟩
  ·simp (disch := omega) only [t0, t3, t4, hlt, ab_, go_sem, reduceEqDiff, reduceCtorEq, ↓reduceIte]
   have ff : a0_ (xs.map aw_.cells) [.val (.slice none 0 0)] k = xs.map aw_.cells := bK_ _ _ (by simp; omega)
   rw [ff]
   exact bF_ (r := ⟨227, 1, xs.map aw_.cells⟩) rfl (by simp) (by intro e he; obtain ⟨x, _, q⟩ := mem_map.1 he; subst q; rfl)
theorem iA_ (xs : List aw_) (hb : (ac_ aw_.sz) xs ≤ 1048576) (h : List Row) : aa_ prog 172 [.list 0 1 (xs.map aw_.cells), .list 0 1 (xs.map aw_.cells)] h (.val (.bool true)) := by
 have hx := Nat.le_trans (aW_ (f := aw_.sz) (xs := xs)) hb
 refine ai_ mixed Tryz.func172 q5_ rfl rfl ?_ h
 simp (disch := omega) only [oY_, qT_, ab_, go_sem, reduceEqDiff, reduceCtorEq, ↓reduceIte]
 refine aP_ (fun n t h => ∃ k : Nat, t 0 = .list 0 1 (xs.map aw_.cells) ∧ t 1 = .list 0 1 (xs.map aw_.cells) ∧ t 5 = .val (.int .i64 k) ∧ h = [] ∧ n = xs.length - k ∧ k ≤ xs.length) xs.length ?_ ?_
 ·exact ⟨0, rfl, rfl, rfl, rfl, rfl, Nat.zero_le _⟩
 ·rintro J hJ n t h ⟨k, t0, t1, t5, rfl, rfl, hk⟩
  by_cases hlt : k < xs.length
  ·simp (disch := omega) only [t0, t1, t5, hlt, aw_.cells, ab_, go_sem, reduceEqDiff, reduceCtorEq, ↓reduceIte, af_]
   refine aa_.q (kk_ xs[k] (by have := a8_ (f := aw_.sz) (getElem_mem hlt); omega) _) ?_
   simp (disch := omega) only [go_sem]
   exact ⟨xs.length - (k + 1), by omega, hJ _ _ _ ⟨k + 1, by simp [upd, t0], by simp [upd, t1], by simp [upd], rfl, rfl, by omega⟩⟩
  ·simp (disch := omega) only [t0, t1, t5, hlt, ab_, go_sem, reduceEqDiff, reduceCtorEq, ↓reduceIte, af_]
   exact ae_ _ _
theorem iE_ (x : aU_) (l : Int) (h0 : 0 ≤ l) (h1 : l ≤ 1048576) (hw : aU_.wf x) (h : List Row) : aa_ prog 130 [.agg (aU_.cells x), .val (.int .i64 l)] h (.val (.int .i64 (szR (aU_.sz x) l))) := by
 obtain ⟨w_Next, w_Binds, w_Cells, w_Levels, _⟩ := hw
 have hsz : aU_.sz x = (ac_ aG_.sz) x.Binds + (ac_ aM_.sz) x.Cells + (ac_ aw_.sz) x.Levels := rfl
 refine ai_ mixed Tryz.func130 tN_ rfl rfl ?_ h
 simp (disch := omega) only [pI_, tm_, aU_.cells, go_sem, reduceEqDiff, Nat.reduceAdd, Int.reduceNeg, ↓reduceIte]
 refine aa_.call (gG_ x.Binds (l) (by omega) (by omega) w_Binds _) ?_
 by_cases hn_Binds : ((ac_ aG_.sz) x.Binds : Int) ≤ l
 case neg =>
  rw [an_ (n := (ac_ aG_.sz) x.Binds) (l := l) (by omega)]
  simp (disch := omega) only [ab_, go_sem, reduceEqDiff, Int.reduceNeg, ↓reduceIte]
  rw [an_ (by omega)]; exact ae_ _ _
 rw [aI_ (n := (ac_ aG_.sz) x.Binds) (l := l) hn_Binds]
 simp (disch := omega) only [ab_, go_sem, reduceEqDiff, Int.reduceNeg, ↓reduceIte]
 refine ⟨fun hn => absurd hn (by omega), fun _ => ?_⟩
 refine aa_.call (kj_ x.Cells (l - (ac_ aG_.sz) x.Binds) (by omega) (by omega) w_Cells _) ?_
 by_cases hn_Cells : ((ac_ aM_.sz) x.Cells : Int) ≤ l - (ac_ aG_.sz) x.Binds
 case neg =>
  rw [an_ (n := (ac_ aM_.sz) x.Cells) (l := l - (ac_ aG_.sz) x.Binds) (by omega)]
  simp (disch := omega) only [ab_, go_sem, reduceEqDiff, Int.reduceNeg, ↓reduceIte]
  rw [an_ (by omega)]; exact ae_ _ _
 rw [aI_ (n := (ac_ aM_.sz) x.Cells) (l := l - (ac_ aG_.sz) x.Binds) hn_Cells]
 simp (disch := omega) only [ab_, go_sem, reduceEqDiff, Int.reduceNeg, ↓reduceIte]
 refine ⟨fun hn => absurd hn (by omega), fun _ => ?_⟩
 refine aa_.call (iG_ x.Levels (l - (ac_ aG_.sz) x.Binds - (ac_ aM_.sz) x.Cells) (by omega) (by omega) w_Levels _) ?_
 by_cases hn_Levels : ((ac_ aw_.sz) x.Levels : Int) ≤ l - (ac_ aG_.sz) x.Binds - (ac_ aM_.sz) x.Cells
 case neg =>
  rw [an_ (n := (ac_ aw_.sz) x.Levels) (l := l - (ac_ aG_.sz) x.Binds - (ac_ aM_.sz) x.Cells) (by omega)]
  simp (disch := omega) only [ab_, go_sem, reduceEqDiff, Int.reduceNeg, ↓reduceIte]
  rw [an_ (by omega)]; exact ae_ _ _
 rw [aI_ (n := (ac_ aw_.sz) x.Levels) (l := l - (ac_ aG_.sz) x.Binds - (ac_ aM_.sz) x.Cells) hn_Levels]
 simp (disch := omega) only [ab_, go_sem, reduceEqDiff, Int.reduceNeg, ↓reduceIte]
 refine ⟨fun hn => absurd hn (by omega), fun _ => ?_⟩
 rw [aI_ (by omega), hsz]
 have hfin : l - (((ac_ aG_.sz) x.Binds + (ac_ aM_.sz) x.Cells + (ac_ aw_.sz) x.Levels : Nat) : Int) = l - (ac_ aG_.sz) x.Binds - (ac_ aM_.sz) x.Cells - (ac_ aw_.sz) x.Levels := by omega
 rw [hfin]; exact ae_ _ _
theorem i7_ (x : aU_) (hb : aU_.sz x ≤ 1048576) (h : List Row) : aa_ prog 139 [.agg (aU_.cells x)] h (.agg (aU_.cells x)) := by
 have hsz : aU_.sz x = (ac_ aG_.sz) x.Binds + (ac_ aM_.sz) x.Cells + (ac_ aw_.sz) x.Levels := rfl
 refine ai_ mixed Tryz.func139 qN_ rfl rfl ?_ h
 simp (disch := omega) only [oJ_, t4_, aU_.cells, go_sem, reduceEqDiff, Nat.reduceAdd, reduceLeDiff, ↓reduceIte]
 refine aa_.call (gv_ x.Binds (by omega) _) ?_
 simp (disch := omega) only [go_sem, reduceEqDiff, Nat.reduceAdd, reduceLeDiff, ↓reduceIte]
 refine aa_.call (j9_ x.Cells (by omega) _) ?_
 simp (disch := omega) only [go_sem, reduceEqDiff, Nat.reduceAdd, reduceLeDiff, ↓reduceIte]
 refine aa_.call (iX_ x.Levels (by omega) _) ?_
 simp (disch := omega) only [go_sem, reduceEqDiff, Nat.reduceAdd, ↓reduceIte, bu_]
 exact bk_ _ _ rfl
theorem iJ_ (x : aU_) (hb : aU_.sz x ≤ 1048576) (h : List Row) : aa_ prog 151 [.agg (aU_.cells x), .agg (aU_.cells x)] h (.val (.bool true)) := by
 have hsz : aU_.sz x = (ac_ aG_.sz) x.Binds + (ac_ aM_.sz) x.Cells + (ac_ aw_.sz) x.Levels := rfl
 refine ai_ mixed Tryz.func151 rA_ rfl rfl ?_ h
 simp (disch := omega) only [pv_, s3_, aU_.cells, ab_, go_sem, reduceEqDiff, Nat.reduceAdd, ↓reduceIte]
 refine aa_.call (gw_ x.Binds (by omega) _) ?_
 simp (disch := omega) only [ab_, go_sem, reduceEqDiff, ↓reduceIte]
 refine aa_.call (j1_ x.Cells (by omega) _) ?_
 simp (disch := omega) only [ab_, go_sem, reduceEqDiff, ↓reduceIte]
 refine aa_.call (iA_ x.Levels (by omega) _) ?_
 simp (disch := omega) only [ab_, go_sem, ↓reduceIte]
 exact ae_ _ _
theorem fO_ (x : ah_) (l : Int) (h0 : 0 ≤ l) (h1 : l ≤ 1048576) (hw : ah_.wf x) (h : List Row) : aa_ prog 93 [.agg (ah_.cells x), .val (.int .i64 l)] h (.val (.int .i64 (szR (ah_.sz x) l))) := by
 obtain ⟨w_Status, w_PC, w_Stack, w_Refs, w_Args, w_Loops, w_Frames, w_Locals, w_Test, w_NakedOn, w_Naked, w_Code, w_Trans, w_Fault, w_Wait, w_Input, _⟩ := hw
 have hsz : ah_.sz x = (ac_ ByteArray.size) x.Stack + (ac_ aH_.sz) x.Refs + (ac_ aA_.sz) x.Args + (ac_ aR_.sz) x.Loops + (ac_ aF_.sz) x.Frames + aU_.sz x.Locals + aH_.sz x.Naked + ByteArray.size x.Input := rfl
 refine ai_ mixed Tryz.func93 vI_ rfl rfl ?_ h
 unfold bf_ at w_Input
 simp (disch := omega) only [sT_, c93, ah_.cells, go_sem, reduceEqDiff, Nat.reduceAdd, Int.reduceNeg, ↓reduceIte]
 refine aa_.call (b9_ x.Stack (l) (by omega) (by omega) w_Stack _) ?_
 by_cases hn_Stack : ((ac_ ByteArray.size) x.Stack : Int) ≤ l
 case neg =>
  rw [an_ (n := (ac_ ByteArray.size) x.Stack) (l := l) (by omega)]
  simp (disch := omega) only [ab_, go_sem, reduceEqDiff, Int.reduceNeg, ↓reduceIte]
  rw [an_ (by omega)]; exact ae_ _ _
 rw [aI_ (n := (ac_ ByteArray.size) x.Stack) (l := l) hn_Stack]
 simp (disch := omega) only [ab_, go_sem, reduceEqDiff, Int.reduceNeg, ↓reduceIte]
 refine ⟨fun hn => absurd hn (by omega), fun _ => ?_⟩
 refine aa_.call (l3_ x.Refs (l - (ac_ ByteArray.size) x.Stack) (by omega) (by omega) w_Refs _) ?_
 by_cases hn_Refs : ((ac_ aH_.sz) x.Refs : Int) ≤ l - (ac_ ByteArray.size) x.Stack
 case neg =>
  rw [an_ (n := (ac_ aH_.sz) x.Refs) (l := l - (ac_ ByteArray.size) x.Stack) (by omega)]
  simp (disch := omega) only [ab_, go_sem, reduceEqDiff, Int.reduceNeg, ↓reduceIte]
  rw [an_ (by omega)]; exact ae_ _ _
 rw [aI_ (n := (ac_ aH_.sz) x.Refs) (l := l - (ac_ ByteArray.size) x.Stack) hn_Refs]
 simp (disch := omega) only [ab_, go_sem, reduceEqDiff, Int.reduceNeg, ↓reduceIte]
 refine ⟨fun hn => absurd hn (by omega), fun _ => ?_⟩
 refine aa_.call (i9_ x.Args (l - (ac_ ByteArray.size) x.Stack - (ac_ aH_.sz) x.Refs) (by omega) (by omega) w_Args _) ?_
 by_cases hn_Args : ((ac_ aA_.sz) x.Args : Int) ≤ l - (ac_ ByteArray.size) x.Stack - (ac_ aH_.sz) x.Refs
 case neg =>
  rw [an_ (n := (ac_ aA_.sz) x.Args) (l := l - (ac_ ByteArray.size) x.Stack - (ac_ aH_.sz) x.Refs) (by omega)]
  simp (disch := omega) only [ab_, go_sem, reduceEqDiff, Int.reduceNeg, ↓reduceIte]
  rw [an_ (by omega)]; exact ae_ _ _
 rw [aI_ (n := (ac_ aA_.sz) x.Args) (l := l - (ac_ ByteArray.size) x.Stack - (ac_ aH_.sz) x.Refs) hn_Args]
 simp (disch := omega) only [ab_, go_sem, reduceEqDiff, Int.reduceNeg, ↓reduceIte]
 refine ⟨fun hn => absurd hn (by omega), fun _ => ?_⟩
 refine aa_.call (jD_ x.Loops (l - (ac_ ByteArray.size) x.Stack - (ac_ aH_.sz) x.Refs - (ac_ aA_.sz) x.Args) (by omega) (by omega) w_Loops _) ?_
 by_cases hn_Loops : ((ac_ aR_.sz) x.Loops : Int) ≤ l - (ac_ ByteArray.size) x.Stack - (ac_ aH_.sz) x.Refs - (ac_ aA_.sz) x.Args
 case neg =>
  rw [an_ (n := (ac_ aR_.sz) x.Loops) (l := l - (ac_ ByteArray.size) x.Stack - (ac_ aH_.sz) x.Refs - (ac_ aA_.sz) x.Args) (by omega)]
  simp (disch := omega) only [ab_, go_sem, reduceEqDiff, Int.reduceNeg, ↓reduceIte]
  rw [an_ (by omega)]; exact ae_ _ _
 rw [aI_ (n := (ac_ aR_.sz) x.Loops) (l := l - (ac_ ByteArray.size) x.Stack - (ac_ aH_.sz) x.Refs - (ac_ aA_.sz) x.Args) hn_Loops]
 simp (disch := omega) only [ab_, go_sem, reduceEqDiff, Int.reduceNeg, ↓reduceIte]
 refine ⟨fun hn => absurd hn (by omega), fun _ => ?_⟩
 refine aa_.call (jb_ x.Frames (l - (ac_ ByteArray.size) x.Stack - (ac_ aH_.sz) x.Refs - (ac_ aA_.sz) x.Args - (ac_ aR_.sz) x.Loops) (by omega) (by omega) w_Frames _) ?_
 by_cases hn_Frames : ((ac_ aF_.sz) x.Frames : Int) ≤ l - (ac_ ByteArray.size) x.Stack - (ac_ aH_.sz) x.Refs - (ac_ aA_.sz) x.Args - (ac_ aR_.sz) x.Loops
 case neg =>
  rw [an_ (n := (ac_ aF_.sz) x.Frames) (l := l - (ac_ ByteArray.size) x.Stack - (ac_ aH_.sz) x.Refs - (ac_ aA_.sz) x.Args - (ac_ aR_.sz) x.Loops) (by omega)]
  simp (disch := omega) only [ab_, go_sem, reduceEqDiff, Nat.reduceAdd, reduceLeDiff, Int.reduceNeg, ↓reduceIte]
  rw [an_ (by omega)]; exact ae_ _ _
 rw [aI_ (n := (ac_ aF_.sz) x.Frames) (l := l - (ac_ ByteArray.size) x.Stack - (ac_ aH_.sz) x.Refs - (ac_ aA_.sz) x.Args - (ac_ aR_.sz) x.Loops) hn_Frames]
 simp (disch := omega) only [ab_, go_sem, reduceEqDiff, Nat.reduceAdd, reduceLeDiff, Int.reduceNeg, ↓reduceIte]
 refine ⟨fun hn => absurd hn (by omega), fun _ => ?_⟩
 refine aa_.call (iE_ x.Locals (l - (ac_ ByteArray.size) x.Stack - (ac_ aH_.sz) x.Refs - (ac_ aA_.sz) x.Args - (ac_ aR_.sz) x.Loops - (ac_ aF_.sz) x.Frames) (by omega) (by omega) w_Locals _) ?_
 by_cases hn_Locals : (aU_.sz x.Locals : Int) ≤ l - (ac_ ByteArray.size) x.Stack - (ac_ aH_.sz) x.Refs - (ac_ aA_.sz) x.Args - (ac_ aR_.sz) x.Loops - (ac_ aF_.sz) x.Frames
 case neg =>
  rw [an_ (n := aU_.sz x.Locals) (l := l - (ac_ ByteArray.size) x.Stack - (ac_ aH_.sz) x.Refs - (ac_ aA_.sz) x.Args - (ac_ aR_.sz) x.Loops - (ac_ aF_.sz) x.Frames) (by omega)]
  simp (disch := omega) only [ab_, go_sem, reduceEqDiff, Nat.reduceAdd, reduceLeDiff, Int.reduceNeg, ↓reduceIte]
  rw [an_ (by omega)]; exact ae_ _ _
 rw [aI_ (n := aU_.sz x.Locals) (l := l - (ac_ ByteArray.size) x.Stack - (ac_ aH_.sz) x.Refs - (ac_ aA_.sz) x.Args - (ac_ aR_.sz) x.Loops - (ac_ aF_.sz) x.Frames) hn_Locals]
 simp (disch := omega) only [ab_, go_sem, reduceEqDiff, Nat.reduceAdd, reduceLeDiff, Int.reduceNeg, ↓reduceIte]
 refine ⟨fun hn => absurd hn (by omega), fun _ => ?_⟩
 refine aa_.call (ic_ x.Naked (l - (ac_ ByteArray.size) x.Stack - (ac_ aH_.sz) x.Refs - (ac_ aA_.sz) x.Args - (ac_ aR_.sz) x.Loops - (ac_ aF_.sz) x.Frames - aU_.sz x.Locals) (by omega) (by omega) w_Naked _) ?_
 by_cases hn_Naked : (aH_.sz x.Naked : Int) ≤ l - (ac_ ByteArray.size) x.Stack - (ac_ aH_.sz) x.Refs - (ac_ aA_.sz) x.Args - (ac_ aR_.sz) x.Loops - (ac_ aF_.sz) x.Frames - aU_.sz x.Locals
 case neg =>
  rw [an_ (n := aH_.sz x.Naked) (l := l - (ac_ ByteArray.size) x.Stack - (ac_ aH_.sz) x.Refs - (ac_ aA_.sz) x.Args - (ac_ aR_.sz) x.Loops - (ac_ aF_.sz) x.Frames - aU_.sz x.Locals) (by omega)]
  simp (disch := omega) only [ab_, go_sem, reduceEqDiff, Int.reduceNeg, ↓reduceIte, af_]
  rw [an_ (by omega)]; exact ae_ _ _
 rw [aI_ (n := aH_.sz x.Naked) (l := l - (ac_ ByteArray.size) x.Stack - (ac_ aH_.sz) x.Refs - (ac_ aA_.sz) x.Args - (ac_ aR_.sz) x.Loops - (ac_ aF_.sz) x.Frames - aU_.sz x.Locals) hn_Naked]
 simp (disch := omega) only [ab_, go_sem, reduceEqDiff, Int.reduceNeg, ↓reduceIte, af_]
 refine ⟨fun hn => absurd hn (by omega), fun _ => ?_⟩
 refine ⟨fun hn => ?_, fun hn_Input => ?_⟩
 ·rw [an_ (by omega)]; exact ae_ _ _
 try simp (disch := omega) only [af_]
 rw [aI_ (by omega), hsz]
 have hfin : l - (((ac_ ByteArray.size) x.Stack + (ac_ aH_.sz) x.Refs + (ac_ aA_.sz) x.Args + (ac_ aR_.sz) x.Loops + (ac_ aF_.sz) x.Frames + aU_.sz x.Locals + aH_.sz x.Naked + ByteArray.size x.Input : Nat) : Int) = l - (ac_ ByteArray.size) x.Stack - (ac_ aH_.sz) x.Refs - (ac_ aA_.sz) x.Args - (ac_ aR_.sz) x.Loops - (ac_ aF_.sz) x.Frames - aU_.sz x.Locals - aH_.sz x.Naked - ByteArray.size x.Input := by omega
 rw [hfin]; exact ae_ _ _
theorem fJ_ (x : ah_) (hb : ah_.sz x ≤ 1048576) (h : List Row) : aa_ prog 106 [.agg (ah_.cells x)] h (.agg (ah_.cells x)) := by
 have hsz : ah_.sz x = (ac_ ByteArray.size) x.Stack + (ac_ aH_.sz) x.Refs + (ac_ aA_.sz) x.Args + (ac_ aR_.sz) x.Loops + (ac_ aF_.sz) x.Frames + aU_.sz x.Locals + aH_.sz x.Naked + ByteArray.size x.Input := rfl
 refine ai_ mixed Tryz.func106 te_ rfl rfl ?_ h
 simp (disch := omega) only [oR_, t1_, ah_.cells, go_sem, reduceEqDiff, Nat.reduceAdd, reduceLeDiff, ↓reduceIte]
 refine aa_.call (cb_ x.Stack (by omega) _) ?_
 simp (disch := omega) only [go_sem, reduceEqDiff, Nat.reduceAdd, reduceLeDiff, ↓reduceIte]
 refine aa_.call (lm_ x.Refs (by omega) _) ?_
 simp (disch := omega) only [go_sem, reduceEqDiff, Nat.reduceAdd, reduceLeDiff, ↓reduceIte]
 refine aa_.call (i3_ x.Args (by omega) _) ?_
 simp (disch := omega) only [go_sem, reduceEqDiff, Nat.reduceAdd, reduceLeDiff, ↓reduceIte]
 refine aa_.call (km_ x.Loops (by omega) _) ?_
 simp (disch := omega) only [go_sem, reduceEqDiff, Nat.reduceAdd, reduceLeDiff, ↓reduceIte]
 refine aa_.call (iZ_ x.Frames (by omega) _) ?_
 simp (disch := omega) only [go_sem, reduceEqDiff, Nat.reduceAdd, reduceLeDiff, ↓reduceIte]
 refine aa_.call (i7_ x.Locals (by omega) _) ?_
 simp (disch := omega) only [aU_.cells, go_sem, reduceEqDiff, Nat.reduceAdd, reduceLeDiff, ↓reduceIte]
 refine aa_.call (ik_ x.Naked (by omega) _) ?_
 simp (disch := omega) only [aH_.cells, go_sem, reduceEqDiff, Nat.reduceAdd, reduceLeDiff, ↓reduceIte, bu_]
 exact bk_ _ _ rfl
theorem fF_ (x : ah_) (hb : ah_.sz x ≤ 1048576) (h : List Row) : aa_ prog 123 [.agg (ah_.cells x), .agg (ah_.cells x)] h (.val (.bool true)) := by
 have hsz : ah_.sz x = (ac_ ByteArray.size) x.Stack + (ac_ aH_.sz) x.Refs + (ac_ aA_.sz) x.Args + (ac_ aR_.sz) x.Loops + (ac_ aF_.sz) x.Frames + aU_.sz x.Locals + aH_.sz x.Naked + ByteArray.size x.Input := rfl
 refine ai_ mixed Tryz.func123 rX_ rfl rfl ?_ h
 simp (disch := omega) only [o2_, ry_, ah_.cells, ab_, go_sem, reduceEqDiff, Nat.reduceAdd, ↓reduceIte]
 refine aa_.call (ca_ x.Stack (by omega) _) ?_
 simp (disch := omega) only [ab_, go_sem, reduceEqDiff, ↓reduceIte]
 refine aa_.call (lC_ x.Refs (by omega) _) ?_
 simp (disch := omega) only [ab_, go_sem, reduceEqDiff, ↓reduceIte]
 refine aa_.call (iD_ x.Args (by omega) _) ?_
 simp (disch := omega) only [ab_, go_sem, reduceEqDiff, ↓reduceIte]
 refine aa_.call (jS_ x.Loops (by omega) _) ?_
 simp (disch := omega) only [ab_, go_sem, reduceEqDiff, ↓reduceIte]
 refine aa_.call (i4_ x.Frames (by omega) _) ?_
 simp (disch := omega) only [ab_, go_sem, reduceEqDiff, Nat.reduceAdd, reduceLeDiff, ↓reduceIte]
 refine aa_.call (iJ_ x.Locals (by omega) _) ?_
 simp (disch := omega) only [ab_, go_sem, reduceEqDiff, Nat.reduceAdd, reduceLeDiff, ↓reduceIte]
 refine aa_.call (h1_ x.Naked (by omega) _) ?_
 simp (disch := omega) only [ab_, go_sem, reduceEqDiff, ↓reduceIte]
 exact ae_ _ _
theorem n2_ (x : a4_) (l : Int) (h0 : 0 ≤ l) (h1 : l ≤ 1048576) (hw : a4_.wf x) (h : List Row) : aa_ prog 87 [.agg (a4_.cells x), .val (.int .i64 l)] h (.val (.int .i64 (szR (a4_.sz x) l))) := by
 obtain ⟨w_Op, w_A, w_B, w_S, _⟩ := hw
 have hsz : a4_.sz x = ByteArray.size x.S := rfl
 refine ai_ mixed Tryz.func87 vd_ rfl rfl ?_ h
 unfold bf_ at w_S
 simp (disch := omega) only [qC_, c87, a4_.cells, ab_, go_sem, reduceEqDiff, Nat.reduceAdd, Int.reduceNeg, ↓reduceIte, af_]
 refine ⟨fun hn => ?_, fun hn_S => ?_⟩
 ·rw [an_ (by omega)]; exact ae_ _ _
 try simp (disch := omega) only [af_]
 rw [aI_ (by omega), hsz]
 have hfin : l - ((ByteArray.size x.S : Nat) : Int) = l - ByteArray.size x.S := by omega
 rw [hfin]; exact ae_ _ _
theorem nL_ (x : a4_) (hb : a4_.sz x ≤ 1048576) (h : List Row) : aa_ prog 100 [.agg (a4_.cells x)] h (.agg (a4_.cells x)) := by
 have hsz : a4_.sz x = ByteArray.size x.S := rfl
 refine ai_ mixed Tryz.func100 uM_ rfl rfl ?_ h
 simp (disch := omega) only [o1_, ue_, a4_.cells, go_sem, reduceEqDiff, Nat.reduceAdd, reduceLeDiff, ↓reduceIte, bu_]
 exact bk_ _ _ rfl
theorem nA_ (x : a4_) (hb : a4_.sz x ≤ 1048576) (h : List Row) : aa_ prog 117 [.agg (a4_.cells x), .agg (a4_.cells x)] h (.val (.bool true)) := by
 have hsz : a4_.sz x = ByteArray.size x.S := rfl
 refine ai_ mixed Tryz.func117 rf_ rfl rfl ?_ h
 simp (disch := omega) only [pu_, ss_, a4_.cells, ab_, go_sem, reduceEqDiff, Nat.reduceAdd, ↓reduceIte]
 exact ae_ _ _
theorem kW_ (xs : List a4_) (l : Int) (h0 : 0 ≤ l) (h1 : l ≤ 1048576) (hw : a6_ a4_.wf xs) (h : List Row) : aa_ prog 40 [.list 0 4 (xs.map a4_.cells), .val (.int .i64 l)] h (.val (.int .i64 (szR (ac_ a4_.sz xs) l))) := by
 obtain ⟨hx, hs⟩ := hw
 refine ai_ mixed Tryz.func40 wh_ rfl rfl ?_ h
 simp (disch := omega) only [tA_, c40, ab_, go_sem, reduceEqDiff, reduceCtorEq, Int.reduceNeg, ↓reduceIte, af_]
 refine ⟨fun hn => ?_, fun hn => ?_⟩
 ·rw [an_ (by simp only [ac_]; omega)]; exact ae_ _ _
 ·refine aP_ (fun n t h => ∃ (k : Nat) (m : Int), t 0 = .list 0 4 (xs.map a4_.cells) ∧ t 5 = .val (.int .i64 k) ∧ t 1 = .val (.int .i64 m) ∧ h = [] ∧ n = xs.length - k ∧ k ≤ xs.length ∧ 0 ≤ m ∧ m ≤ 1048576 ∧ szR (ac_ a4_.sz xs) l = szR (bi_ a4_.sz (xs.drop k)) m) xs.length ?_ ?_
  ·exact ⟨0, l - xs.length, rfl, rfl, rfl, rfl, rfl, Nat.zero_le _, by omega, by omega, bo_ (by omega)⟩
  ·rintro J hJ n t h ⟨k, m, t0, t5, t1, rfl, rfl, hk, hm0, hm1, hS⟩
   by_cases hlt : k < xs.length
   ·have hd := bL_ a4_.sz xs k hlt
    have hwk := hs _ (getElem_mem hlt)
    rw [hd] at hS
    simp (disch := omega) only [t0, t5, t1, hlt, a4_.cells, ab_, go_sem, reduceEqDiff, Nat.reduceAdd, reduceCtorEq, Int.reduceNeg, ↓reduceIte]
    refine aa_.call (n2_ xs[k] m hm0 hm1 hwk []) ?_
    by_cases hc : (a4_.sz xs[k] : Int) ≤ m
    ·rw [aI_ (n := a4_.sz xs[k]) (l := m) hc]
     simp (disch := omega) only [t5, ab_, go_sem, reduceEqDiff, Int.reduceNeg, ↓reduceIte, af_]
     refine ⟨fun hn2 => absurd hn2 (by omega), fun _ => ?_⟩
     exact ⟨xs.length - (k + 1), by omega, hJ _ _ _ ⟨k + 1, m - a4_.sz xs[k], by simp [upd, t0], by simp [upd], by simp [upd], rfl, rfl, by omega, by omega, by omega, by rw [hS, bo_ (by omega)]⟩⟩
    ·rw [an_ (n := a4_.sz xs[k]) (l := m) (by omega)]
     simp (disch := omega) only [t5, ab_, go_sem, reduceEqDiff, Int.reduceNeg, ↓reduceIte, af_]
     rw [hS, an_ (by omega)]; exact ae_ _ _
   ·simp (disch := omega) only [t0, t5, t1, hlt, ab_, go_sem, reduceEqDiff, reduceCtorEq, Int.reduceNeg, ↓reduceIte]
    rw [hS, drop_eq_nil_of_le (by omega), aI_ (by simp only [bi_]; omega)]
    simp only [bi_, Int.natCast_zero, Int.sub_zero]
    exact ae_ _ _
theorem kS_ (xs : List a4_) (hb : (ac_ a4_.sz) xs ≤ 1048576) (h : List Row) : aa_ prog 54 [.list 0 4 (xs.map a4_.cells)] h (.list 0 4 (xs.map a4_.cells)) := by
 have hx := Nat.le_trans (aW_ (f := a4_.sz) (xs := xs)) hb
 refine ai_ mixed Tryz.func54 u9_ rfl rfl ?_ h
 simp (disch := omega) only [sv_, c54, go_sem, reduceCtorEq, ↓reduceIte]
 refine ⟨by omega, by omega, ?_⟩
 refine aP_ (fun n t h => ∃ k : Nat, t 0 = .list 0 4 (xs.map a4_.cells) ∧ t 3 = .own 0 xs.length ∧ t 4 = .val (.int .i64 k) ∧ h = [⟨127, 4, a0_ (xs.map a4_.cells) [.val (.int .i64 0), .val (.int .i64 0), .val (.int .i64 0), .val (.string ⟨#[]⟩)] k⟩] ∧ n = xs.length - k ∧ k ≤ xs.length) xs.length ?_ ?_
 ·exact ⟨0, rfl, rfl, rfl, by rw [bA_]; simp, rfl, Nat.zero_le _⟩
 ·rintro J hJ n t h ⟨k, t0, t3, t4, rfl, rfl, hk⟩
  have fl : (a0_ (xs.map a4_.cells) [.val (.int .i64 0), .val (.int .i64 0), .val (.int .i64 0), .val (.string ⟨#[]⟩)] k).length = xs.length := by rw [br_ _ _ (by simpa using hk)]; simp
  by_cases hlt : k < xs.length
  ·have fg : (a0_ (xs.map a4_.cells) [.val (.int .i64 0), .val (.int .i64 0), .val (.int .i64 0), .val (.string ⟨#[]⟩)] k)[k]? = some [.val (.int .i64 0), .val (.int .i64 0), .val (.int .i64 0), .val (.string ⟨#[]⟩)] := bM_ _ _ (by simpa using hlt)
   have fs := bE_ (xs.map a4_.cells) [.val (.int .i64 0), .val (.int .i64 0), .val (.int .i64 0), .val (.string ⟨#[]⟩)] (a4_.cells xs[k]) (k := k) (by rw [getElem?_map, getElem?_eq_getElem hlt]; rfl)
   simp only [a4_.cells] at fs
   simp (disch := omega) only [t0, t3, t4, hlt, a4_.cells, ab_, go_sem, reduceEqDiff, Nat.reduceAdd, reduceCtorEq, ↓reduceIte]
   refine aa_.call (nL_ xs[k] (by have := a8_ (f := a4_.sz) (getElem_mem hlt); omega) _) ?_
   simp (disch := omega) only [t4, hlt, fl, fg, fs, a4_.cells, go_sem, reduceEqDiff, Nat.reduceAdd, ↓reduceIte, af_]
   exact ⟨xs.length - (k + 1), by omega, hJ _ _ _ ⟨k + 1, by simp [upd, t0], by simp [upd, t3], by simp [upd], rfl, rfl, by omega⟩⟩
  ·simp (disch := omega) only [t0, t3, t4, hlt, ab_, go_sem, reduceEqDiff, reduceCtorEq, ↓reduceIte]
   have ff : a0_ (xs.map a4_.cells) [.val (.int .i64 0), .val (.int .i64 0), .val (.int .i64 0), .val (.string ⟨#[]⟩)] k = xs.map a4_.cells := bK_ _ _ (by simp; omega)
   rw [ff]
   exact bF_ (r := ⟨127, 4, xs.map a4_.cells⟩) rfl (by simp) (by intro e he; obtain ⟨x, _, q⟩ := mem_map.1 he; subst q; rfl)
theorem mG_ (xs : List a4_) (hb : (ac_ a4_.sz) xs ≤ 1048576) (h : List Row) : aa_ prog 79 [.list 0 4 (xs.map a4_.cells), .list 0 4 (xs.map a4_.cells)] h (.val (.bool true)) := by
 have hx := Nat.le_trans (aW_ (f := a4_.sz) (xs := xs)) hb
 refine ai_ mixed Tryz.func79 wr_ rfl rfl ?_ h
 simp (disch := omega) only [rW_, c79, ab_, go_sem, reduceEqDiff, reduceCtorEq, ↓reduceIte]
 refine aP_ (fun n t h => ∃ k : Nat, t 0 = .list 0 4 (xs.map a4_.cells) ∧ t 1 = .list 0 4 (xs.map a4_.cells) ∧ t 5 = .val (.int .i64 k) ∧ h = [] ∧ n = xs.length - k ∧ k ≤ xs.length) xs.length ?_ ?_
 ·exact ⟨0, rfl, rfl, rfl, rfl, rfl, Nat.zero_le _⟩
 ·rintro J hJ n t h ⟨k, t0, t1, t5, rfl, rfl, hk⟩
  by_cases hlt : k < xs.length
  ·simp (disch := omega) only [t0, t1, t5, hlt, a4_.cells, ab_, go_sem, reduceEqDiff, Nat.reduceAdd, reduceCtorEq, ↓reduceIte, af_]
   refine aa_.q (nA_ xs[k] (by have := a8_ (f := a4_.sz) (getElem_mem hlt); omega) _) ?_
   simp (disch := omega) only [go_sem]
   exact ⟨xs.length - (k + 1), by omega, hJ _ _ _ ⟨k + 1, by simp [upd, t0], by simp [upd, t1], by simp [upd], rfl, rfl, by omega⟩⟩
  ·simp (disch := omega) only [t0, t1, t5, hlt, ab_, go_sem, reduceEqDiff, reduceCtorEq, ↓reduceIte, af_]
   exact ae_ _ _
theorem l9_ (x : au_) (l : Int) (h0 : 0 ≤ l) (h1 : l ≤ 1048576) (hw : au_.wf x) (h : List Row) : aa_ prog 91 [.agg (au_.cells x), .val (.int .i64 l)] h (.val (.int .i64 (szR (au_.sz x) l))) := by
 obtain ⟨w_Job, w_Count, w_Name, w_Subs, _⟩ := hw
 have hsz : au_.sz x = ByteArray.size x.Name + (ac_ ByteArray.size) x.Subs := rfl
 refine ai_ mixed Tryz.func91 v8_ rfl rfl ?_ h
 unfold bf_ at w_Name
 simp (disch := omega) only [rn_, c91, au_.cells, ab_, go_sem, reduceEqDiff, Nat.reduceAdd, Int.reduceNeg, ↓reduceIte, af_]
 refine ⟨fun hn => ?_, fun hn_Name => ?_⟩
 ·rw [an_ (by omega)]; exact ae_ _ _
 try simp (disch := omega) only [af_]
 refine aa_.call (b9_ x.Subs (l - ByteArray.size x.Name) (by omega) (by omega) w_Subs _) ?_
 by_cases hn_Subs : ((ac_ ByteArray.size) x.Subs : Int) ≤ l - ByteArray.size x.Name
 case neg =>
  rw [an_ (n := (ac_ ByteArray.size) x.Subs) (l := l - ByteArray.size x.Name) (by omega)]
  simp (disch := omega) only [ab_, go_sem, reduceEqDiff, Int.reduceNeg, ↓reduceIte]
  rw [an_ (by omega)]; exact ae_ _ _
 rw [aI_ (n := (ac_ ByteArray.size) x.Subs) (l := l - ByteArray.size x.Name) hn_Subs]
 simp (disch := omega) only [ab_, go_sem, reduceEqDiff, Int.reduceNeg, ↓reduceIte]
 refine ⟨fun hn => absurd hn (by omega), fun _ => ?_⟩
 rw [aI_ (by omega), hsz]
 have hfin : l - ((ByteArray.size x.Name + (ac_ ByteArray.size) x.Subs : Nat) : Int) = l - ByteArray.size x.Name - (ac_ ByteArray.size) x.Subs := by omega
 rw [hfin]; exact ae_ _ _
theorem mK_ (x : au_) (hb : au_.sz x ≤ 1048576) (h : List Row) : aa_ prog 104 [.agg (au_.cells x)] h (.agg (au_.cells x)) := by
 have hsz : au_.sz x = ByteArray.size x.Name + (ac_ ByteArray.size) x.Subs := rfl
 refine ai_ mixed Tryz.func104 q8_ rfl rfl ?_ h
 simp (disch := omega) only [pH_, s8_, au_.cells, go_sem, reduceEqDiff, Nat.reduceAdd, reduceLeDiff, ↓reduceIte]
 refine aa_.call (cb_ x.Subs (by omega) _) ?_
 simp (disch := omega) only [go_sem, reduceEqDiff, Nat.reduceAdd, ↓reduceIte, bu_]
 exact bk_ _ _ rfl
theorem lt_ (x : au_) (hb : au_.sz x ≤ 1048576) (h : List Row) : aa_ prog 121 [.agg (au_.cells x), .agg (au_.cells x)] h (.val (.bool true)) := by
 have hsz : au_.sz x = ByteArray.size x.Name + (ac_ ByteArray.size) x.Subs := rfl
 refine ai_ mixed Tryz.func121 sO_ rfl rfl ?_ h
 simp (disch := omega) only [o6_, rL_, au_.cells, ab_, go_sem, reduceEqDiff, Nat.reduceAdd, ↓reduceIte]
 refine aa_.call (ca_ x.Subs (by omega) _) ?_
 simp (disch := omega) only [ab_, go_sem, ↓reduceIte]
 exact ae_ _ _
theorem gn_ (xs : List au_) (l : Int) (h0 : 0 ≤ l) (h1 : l ≤ 1048576) (hw : a6_ au_.wf xs) (h : List Row) : aa_ prog 44 [.list 0 4 (xs.map au_.cells), .val (.int .i64 l)] h (.val (.int .i64 (szR (ac_ au_.sz xs) l))) := by
 obtain ⟨hx, hs⟩ := hw
 refine ai_ mixed Tryz.func44 uZ_ rfl rfl ?_ h
 simp (disch := omega) only [q6_, c44, ab_, go_sem, reduceEqDiff, reduceCtorEq, Int.reduceNeg, ↓reduceIte, af_]
 refine ⟨fun hn => ?_, fun hn => ?_⟩
 ·rw [an_ (by simp only [ac_]; omega)]; exact ae_ _ _
 ·refine aP_ (fun n t h => ∃ (k : Nat) (m : Int), t 0 = .list 0 4 (xs.map au_.cells) ∧ t 5 = .val (.int .i64 k) ∧ t 1 = .val (.int .i64 m) ∧ h = [] ∧ n = xs.length - k ∧ k ≤ xs.length ∧ 0 ≤ m ∧ m ≤ 1048576 ∧ szR (ac_ au_.sz xs) l = szR (bi_ au_.sz (xs.drop k)) m) xs.length ?_ ?_
  ·exact ⟨0, l - xs.length, rfl, rfl, rfl, rfl, rfl, Nat.zero_le _, by omega, by omega, bo_ (by omega)⟩
  ·rintro J hJ n t h ⟨k, m, t0, t5, t1, rfl, rfl, hk, hm0, hm1, hS⟩
   by_cases hlt : k < xs.length
   ·have hd := bL_ au_.sz xs k hlt
    have hwk := hs _ (getElem_mem hlt)
    rw [hd] at hS
    simp (disch := omega) only [t0, t5, t1, hlt, au_.cells, ab_, go_sem, reduceEqDiff, Nat.reduceAdd, reduceCtorEq, Int.reduceNeg, ↓reduceIte]
    refine aa_.call (l9_ xs[k] m hm0 hm1 hwk []) ?_
    by_cases hc : (au_.sz xs[k] : Int) ≤ m
    ·rw [aI_ (n := au_.sz xs[k]) (l := m) hc]
     simp (disch := omega) only [t5, ab_, go_sem, reduceEqDiff, Int.reduceNeg, ↓reduceIte, af_]
     refine ⟨fun hn2 => absurd hn2 (by omega), fun _ => ?_⟩
     exact ⟨xs.length - (k + 1), by omega, hJ _ _ _ ⟨k + 1, m - au_.sz xs[k], by simp [upd, t0], by simp [upd], by simp [upd], rfl, rfl, by omega, by omega, by omega, by rw [hS, bo_ (by omega)]⟩⟩
    ·rw [an_ (n := au_.sz xs[k]) (l := m) (by omega)]
     simp (disch := omega) only [t5, ab_, go_sem, reduceEqDiff, Int.reduceNeg, ↓reduceIte, af_]
     rw [hS, an_ (by omega)]; exact ae_ _ _
   ·simp (disch := omega) only [t0, t5, t1, hlt, ab_, go_sem, reduceEqDiff, reduceCtorEq, Int.reduceNeg, ↓reduceIte]
    rw [hS, drop_eq_nil_of_le (by omega), aI_ (by simp only [bi_]; omega)]
    simp only [bi_, Int.natCast_zero, Int.sub_zero]
    exact ae_ _ _
theorem gC_ (xs : List au_) (hb : (ac_ au_.sz) xs ≤ 1048576) (h : List Row) : aa_ prog 58 [.list 0 4 (xs.map au_.cells)] h (.list 0 4 (xs.map au_.cells)) := by
 have hx := Nat.le_trans (aW_ (f := au_.sz) (xs := xs)) hb
 refine ai_ mixed Tryz.func58 vj_ rfl rfl ?_ h
 simp (disch := omega) only [rx_, c58, go_sem, reduceCtorEq, ↓reduceIte]
 refine ⟨by omega, by omega, ?_⟩
 refine aP_ (fun n t h => ∃ k : Nat, t 0 = .list 0 4 (xs.map au_.cells) ∧ t 3 = .own 0 xs.length ∧ t 4 = .val (.int .i64 k) ∧ h = [⟨136, 4, a0_ (xs.map au_.cells) [.val (.int .i64 0), .val (.int .i64 0), .val (.string ⟨#[]⟩), .val (.slice none 0 0)] k⟩] ∧ n = xs.length - k ∧ k ≤ xs.length) xs.length ?_ ?_
 ·exact ⟨0, rfl, rfl, rfl, by rw [bA_]; simp, rfl, Nat.zero_le _⟩
 ·rintro J hJ n t h ⟨k, t0, t3, t4, rfl, rfl, hk⟩
  have fl : (a0_ (xs.map au_.cells) [.val (.int .i64 0), .val (.int .i64 0), .val (.string ⟨#[]⟩), .val (.slice none 0 0)] k).length = xs.length := by rw [br_ _ _ (by simpa using hk)]; simp
  by_cases hlt : k < xs.length
  ·have fg : (a0_ (xs.map au_.cells) [.val (.int .i64 0), .val (.int .i64 0), .val (.string ⟨#[]⟩), .val (.slice none 0 0)] k)[k]? = some [.val (.int .i64 0), .val (.int .i64 0), .val (.string ⟨#[]⟩), .val (.slice none 0 0)] := bM_ _ _ (by simpa using hlt)
   have fs := bE_ (xs.map au_.cells) [.val (.int .i64 0), .val (.int .i64 0), .val (.string ⟨#[]⟩), .val (.slice none 0 0)] (au_.cells xs[k]) (k := k) (by rw [getElem?_map, getElem?_eq_getElem hlt]; rfl)
   simp only [au_.cells] at fs
   simp (disch := omega) only [t0, t3, t4, hlt, au_.cells, ab_, go_sem, reduceEqDiff, Nat.reduceAdd, reduceCtorEq, ↓reduceIte]
   refine aa_.call (mK_ xs[k] (by have := a8_ (f := au_.sz) (getElem_mem hlt); omega) _) ?_
   simp (disch := omega) only [t4, hlt, fl, fg, fs, au_.cells, go_sem, reduceEqDiff, Nat.reduceAdd, ↓reduceIte, af_]
   exact ⟨xs.length - (k + 1), by omega, hJ _ _ _ ⟨k + 1, by simp [upd, t0], by simp [upd, t3], by simp [upd], rfl, rfl, by omega⟩⟩
  ·simp (disch := omega) only [t0, t3, t4, hlt, ab_, go_sem, reduceEqDiff, reduceCtorEq, ↓reduceIte]
   have ff : a0_ (xs.map au_.cells) [.val (.int .i64 0), .val (.int .i64 0), .val (.string ⟨#[]⟩), .val (.slice none 0 0)] k = xs.map au_.cells := bK_ _ _ (by simp; omega)
   rw [ff]
   exact bF_ (r := ⟨136, 4, xs.map au_.cells⟩) rfl (by simp) (by intro e he; obtain ⟨x, _, q⟩ := mem_map.1 he; subst q; rfl)
theorem gt_ (xs : List au_) (hb : (ac_ au_.sz) xs ≤ 1048576) (h : List Row) : aa_ prog 83 [.list 0 4 (xs.map au_.cells), .list 0 4 (xs.map au_.cells)] h (.val (.bool true)) := by
 have hx := Nat.le_trans (aW_ (f := au_.sz) (xs := xs)) hb
 refine ai_ mixed Tryz.func83 vL_ rfl rfl ?_ h
 simp (disch := omega) only [r1_, c83, ab_, go_sem, reduceEqDiff, reduceCtorEq, ↓reduceIte]
 refine aP_ (fun n t h => ∃ k : Nat, t 0 = .list 0 4 (xs.map au_.cells) ∧ t 1 = .list 0 4 (xs.map au_.cells) ∧ t 5 = .val (.int .i64 k) ∧ h = [] ∧ n = xs.length - k ∧ k ≤ xs.length) xs.length ?_ ?_
 ·exact ⟨0, rfl, rfl, rfl, rfl, rfl, Nat.zero_le _⟩
 ·rintro J hJ n t h ⟨k, t0, t1, t5, rfl, rfl, hk⟩
  by_cases hlt : k < xs.length
  ·simp (disch := omega) only [t0, t1, t5, hlt, au_.cells, ab_, go_sem, reduceEqDiff, Nat.reduceAdd, reduceCtorEq, ↓reduceIte, af_]
   refine aa_.q (lt_ xs[k] (by have := a8_ (f := au_.sz) (getElem_mem hlt); omega) _) ?_
   simp (disch := omega) only [go_sem]
   exact ⟨xs.length - (k + 1), by omega, hJ _ _ _ ⟨k + 1, by simp [upd, t0], by simp [upd, t1], by simp [upd], rfl, rfl, by omega⟩⟩
  ·simp (disch := omega) only [t0, t1, t5, hlt, ab_, go_sem, reduceEqDiff, reduceCtorEq, ↓reduceIte, af_]
   exact ae_ _ _
theorem jL_ (x : ap_) (l : Int) (h0 : 0 ≤ l) (h1 : l ≤ 1048576) (hw : ap_.wf x) (h : List Row) : aa_ prog 132 [.agg (ap_.cells x), .val (.int .i64 l)] h (.val (.int .i64 (szR (ap_.sz x) l))) := by
 obtain ⟨w_Kind, w_Name, w_Subs, w_Value, w_N, _⟩ := hw
 have hsz : ap_.sz x = ByteArray.size x.Name + (ac_ ByteArray.size) x.Subs + ByteArray.size x.Value := rfl
 refine ai_ mixed Tryz.func132 tv_ rfl rfl ?_ h
 unfold bf_ at w_Name
 unfold bf_ at w_Value
 simp (disch := omega) only [pm_, sd_, ap_.cells, ab_, go_sem, reduceEqDiff, Nat.reduceAdd, Int.reduceNeg, ↓reduceIte, af_]
 refine ⟨fun hn => ?_, fun hn_Name => ?_⟩
 ·rw [an_ (by omega)]; exact ae_ _ _
 try simp (disch := omega) only [af_]
 refine aa_.call (b9_ x.Subs (l - ByteArray.size x.Name) (by omega) (by omega) w_Subs _) ?_
 by_cases hn_Subs : ((ac_ ByteArray.size) x.Subs : Int) ≤ l - ByteArray.size x.Name
 case neg =>
  rw [an_ (n := (ac_ ByteArray.size) x.Subs) (l := l - ByteArray.size x.Name) (by omega)]
  simp (disch := omega) only [ab_, go_sem, reduceEqDiff, Int.reduceNeg, ↓reduceIte, af_]
  rw [an_ (by omega)]; exact ae_ _ _
 rw [aI_ (n := (ac_ ByteArray.size) x.Subs) (l := l - ByteArray.size x.Name) hn_Subs]
 simp (disch := omega) only [ab_, go_sem, reduceEqDiff, Int.reduceNeg, ↓reduceIte, af_]
 refine ⟨fun hn => absurd hn (by omega), fun _ => ?_⟩
 refine ⟨fun hn => ?_, fun hn_Value => ?_⟩
 ·rw [an_ (by omega)]; exact ae_ _ _
 try simp (disch := omega) only [af_]
 rw [aI_ (by omega), hsz]
 have hfin : l - ((ByteArray.size x.Name + (ac_ ByteArray.size) x.Subs + ByteArray.size x.Value : Nat) : Int) = l - ByteArray.size x.Name - (ac_ ByteArray.size) x.Subs - ByteArray.size x.Value := by omega
 rw [hfin]; exact ae_ _ _
theorem jy_ (x : ap_) (hb : ap_.sz x ≤ 1048576) (h : List Row) : aa_ prog 141 [.agg (ap_.cells x)] h (.agg (ap_.cells x)) := by
 have hsz : ap_.sz x = ByteArray.size x.Name + (ac_ ByteArray.size) x.Subs + ByteArray.size x.Value := rfl
 refine ai_ mixed Tryz.func141 rY_ rfl rfl ?_ h
 simp (disch := omega) only [pk_, tC_, ap_.cells, go_sem, reduceEqDiff, Nat.reduceAdd, reduceLeDiff, ↓reduceIte]
 refine aa_.call (cb_ x.Subs (by omega) _) ?_
 simp (disch := omega) only [go_sem, reduceEqDiff, Nat.reduceAdd, reduceLeDiff, ↓reduceIte, bu_]
 exact bk_ _ _ rfl
theorem ju_ (x : ap_) (hb : ap_.sz x ≤ 1048576) (h : List Row) : aa_ prog 153 [.agg (ap_.cells x), .agg (ap_.cells x)] h (.val (.bool true)) := by
 have hsz : ap_.sz x = ByteArray.size x.Name + (ac_ ByteArray.size) x.Subs + ByteArray.size x.Value := rfl
 refine ai_ mixed Tryz.func153 rP_ rfl rfl ?_ h
 simp (disch := omega) only [oO_, rb_, ap_.cells, ab_, go_sem, reduceEqDiff, Nat.reduceAdd, ↓reduceIte]
 refine aa_.call (ca_ x.Subs (by omega) _) ?_
 simp (disch := omega) only [ab_, go_sem, reduceEqDiff, ↓reduceIte]
 exact ae_ _ _
theorem f4_ (xs : List ap_) (l : Int) (h0 : 0 ≤ l) (h1 : l ≤ 1048576) (hw : a6_ ap_.wf xs) (h : List Row) : aa_ prog 95 [.list 0 5 (xs.map ap_.cells), .val (.int .i64 l)] h (.val (.int .i64 (szR (ac_ ap_.sz xs) l))) := by
 obtain ⟨hx, hs⟩ := hw
 refine ai_ mixed Tryz.func95 wz_ rfl rfl ?_ h
 simp (disch := omega) only [rU_, c95, ab_, go_sem, reduceEqDiff, reduceCtorEq, Int.reduceNeg, ↓reduceIte, af_]
 refine ⟨fun hn => ?_, fun hn => ?_⟩
 ·rw [an_ (by simp only [ac_]; omega)]; exact ae_ _ _
 ·refine aP_ (fun n t h => ∃ (k : Nat) (m : Int), t 0 = .list 0 5 (xs.map ap_.cells) ∧ t 5 = .val (.int .i64 k) ∧ t 1 = .val (.int .i64 m) ∧ h = [] ∧ n = xs.length - k ∧ k ≤ xs.length ∧ 0 ≤ m ∧ m ≤ 1048576 ∧ szR (ac_ ap_.sz xs) l = szR (bi_ ap_.sz (xs.drop k)) m) xs.length ?_ ?_
  ·exact ⟨0, l - xs.length, rfl, rfl, rfl, rfl, rfl, Nat.zero_le _, by omega, by omega, bo_ (by omega)⟩
  ·rintro J hJ n t h ⟨k, m, t0, t5, t1, rfl, rfl, hk, hm0, hm1, hS⟩
   by_cases hlt : k < xs.length
   ·have hd := bL_ ap_.sz xs k hlt
    have hwk := hs _ (getElem_mem hlt)
    rw [hd] at hS
    simp (disch := omega) only [t0, t5, t1, hlt, ap_.cells, ab_, go_sem, reduceEqDiff, Nat.reduceAdd, reduceCtorEq, Int.reduceNeg, ↓reduceIte]
    refine aa_.call (jL_ xs[k] m hm0 hm1 hwk []) ?_
    by_cases hc : (ap_.sz xs[k] : Int) ≤ m
    ·rw [aI_ (n := ap_.sz xs[k]) (l := m) hc]
     simp (disch := omega) only [t5, ab_, go_sem, reduceEqDiff, Int.reduceNeg, ↓reduceIte, af_]
     refine ⟨fun hn2 => absurd hn2 (by omega), fun _ => ?_⟩
     exact ⟨xs.length - (k + 1), by omega, hJ _ _ _ ⟨k + 1, m - ap_.sz xs[k], by simp [upd, t0], by simp [upd], by simp [upd], rfl, rfl, by omega, by omega, by omega, by rw [hS, bo_ (by omega)]⟩⟩
    ·rw [an_ (n := ap_.sz xs[k]) (l := m) (by omega)]
     simp (disch := omega) only [t5, ab_, go_sem, reduceEqDiff, Int.reduceNeg, ↓reduceIte, af_]
     rw [hS, an_ (by omega)]; exact ae_ _ _
   ·simp (disch := omega) only [t0, t5, t1, hlt, ab_, go_sem, reduceEqDiff, reduceCtorEq, Int.reduceNeg, ↓reduceIte]
    rw [hS, drop_eq_nil_of_le (by omega), aI_ (by simp only [bi_]; omega)]
    simp only [bi_, Int.natCast_zero, Int.sub_zero]
    exact ae_ _ _
theorem f5_ (xs : List ap_) (hb : (ac_ ap_.sz) xs ≤ 1048576) (h : List Row) : aa_ prog 108 [.list 0 5 (xs.map ap_.cells)] h (.list 0 5 (xs.map ap_.cells)) := by
 have hx := Nat.le_trans (aW_ (f := ap_.sz) (xs := xs)) hb
 refine ai_ mixed Tryz.func108 ub_ rfl rfl ?_ h
 simp (disch := omega) only [pT_, sC_, go_sem, reduceCtorEq, ↓reduceIte]
 refine ⟨by omega, by omega, ?_⟩
 refine aP_ (fun n t h => ∃ k : Nat, t 0 = .list 0 5 (xs.map ap_.cells) ∧ t 3 = .own 0 xs.length ∧ t 4 = .val (.int .i64 k) ∧ h = [⟨184, 5, a0_ (xs.map ap_.cells) [.val (.int .i64 0), .val (.string ⟨#[]⟩), .val (.slice none 0 0), .val (.string ⟨#[]⟩), .val (.int .i64 0)] k⟩] ∧ n = xs.length - k ∧ k ≤ xs.length) xs.length ?_ ?_
 ·exact ⟨0, rfl, rfl, rfl, by rw [bA_]; simp, rfl, Nat.zero_le _⟩
 ·rintro J hJ n t h ⟨k, t0, t3, t4, rfl, rfl, hk⟩
  have fl : (a0_ (xs.map ap_.cells) [.val (.int .i64 0), .val (.string ⟨#[]⟩), .val (.slice none 0 0), .val (.string ⟨#[]⟩), .val (.int .i64 0)] k).length = xs.length := by rw [br_ _ _ (by simpa using hk)]; simp
  by_cases hlt : k < xs.length
  ·have fg : (a0_ (xs.map ap_.cells) [.val (.int .i64 0), .val (.string ⟨#[]⟩), .val (.slice none 0 0), .val (.string ⟨#[]⟩), .val (.int .i64 0)] k)[k]? = some [.val (.int .i64 0), .val (.string ⟨#[]⟩), .val (.slice none 0 0), .val (.string ⟨#[]⟩), .val (.int .i64 0)] := bM_ _ _ (by simpa using hlt)
   have fs := bE_ (xs.map ap_.cells) [.val (.int .i64 0), .val (.string ⟨#[]⟩), .val (.slice none 0 0), .val (.string ⟨#[]⟩), .val (.int .i64 0)] (ap_.cells xs[k]) (k := k) (by rw [getElem?_map, getElem?_eq_getElem hlt]; rfl)
   simp only [ap_.cells] at fs
   simp (disch := omega) only [t0, t3, t4, hlt, ap_.cells, ab_, go_sem, reduceEqDiff, Nat.reduceAdd, reduceCtorEq, ↓reduceIte]
   refine aa_.call (jy_ xs[k] (by have := a8_ (f := ap_.sz) (getElem_mem hlt); omega) _) ?_
   simp (disch := omega) only [t4, hlt, fl, fg, fs, ap_.cells, go_sem, reduceEqDiff, Nat.reduceAdd, ↓reduceIte, af_]
   exact ⟨xs.length - (k + 1), by omega, hJ _ _ _ ⟨k + 1, by simp [upd, t0], by simp [upd, t3], by simp [upd], rfl, rfl, by omega⟩⟩
  ·simp (disch := omega) only [t0, t3, t4, hlt, ab_, go_sem, reduceEqDiff, reduceCtorEq, ↓reduceIte]
   have ff : a0_ (xs.map ap_.cells) [.val (.int .i64 0), .val (.string ⟨#[]⟩), .val (.slice none 0 0), .val (.string ⟨#[]⟩), .val (.int .i64 0)] k = xs.map ap_.cells := bK_ _ _ (by simp; omega)
   rw [ff]
   exact bF_ (r := ⟨184, 5, xs.map ap_.cells⟩) rfl (by simp) (by intro e he; obtain ⟨x, _, q⟩ := mem_map.1 he; subst q; rfl)
theorem f2_ (xs : List ap_) (hb : (ac_ ap_.sz) xs ≤ 1048576) (h : List Row) : aa_ prog 125 [.list 0 5 (xs.map ap_.cells), .list 0 5 (xs.map ap_.cells)] h (.val (.bool true)) := by
 have hx := Nat.le_trans (aW_ (f := ap_.sz) (xs := xs)) hb
 refine ai_ mixed Tryz.func125 uD_ rfl rfl ?_ h
 simp (disch := omega) only [ph_, tt_, ab_, go_sem, reduceEqDiff, reduceCtorEq, ↓reduceIte]
 refine aP_ (fun n t h => ∃ k : Nat, t 0 = .list 0 5 (xs.map ap_.cells) ∧ t 1 = .list 0 5 (xs.map ap_.cells) ∧ t 5 = .val (.int .i64 k) ∧ h = [] ∧ n = xs.length - k ∧ k ≤ xs.length) xs.length ?_ ?_
 ·exact ⟨0, rfl, rfl, rfl, rfl, rfl, Nat.zero_le _⟩
 ·rintro J hJ n t h ⟨k, t0, t1, t5, rfl, rfl, hk⟩
  by_cases hlt : k < xs.length
  ·simp (disch := omega) only [t0, t1, t5, hlt, ap_.cells, ab_, go_sem, reduceEqDiff, Nat.reduceAdd, reduceCtorEq, ↓reduceIte, af_]
   refine aa_.q (ju_ xs[k] (by have := a8_ (f := ap_.sz) (getElem_mem hlt); omega) _) ?_
   simp (disch := omega) only [go_sem]
   exact ⟨xs.length - (k + 1), by omega, hJ _ _ _ ⟨k + 1, by simp [upd, t0], by simp [upd, t1], by simp [upd], rfl, rfl, by omega⟩⟩
  ·simp (disch := omega) only [t0, t1, t5, hlt, ab_, go_sem, reduceEqDiff, reduceCtorEq, ↓reduceIte, af_]
   exact ae_ _ _
theorem kc_ (x : aY_) (l : Int) (h0 : 0 ≤ l) (h1 : l ≤ 1048576) (hw : aY_.wf x) (h : List Row) : aa_ prog 94 [.agg (aY_.cells x), .val (.int .i64 l)] h (.val (.int .i64 (szR (aY_.sz x) l))) := by
 obtain ⟨w_Depth, w_Restarts, w_Events, _⟩ := hw
 have hsz : aY_.sz x = (ac_ ap_.sz) x.Events := rfl
 refine ai_ mixed Tryz.func94 u1_ rfl rfl ?_ h
 simp (disch := omega) only [uF_, c94, aY_.cells, go_sem, reduceEqDiff, Nat.reduceAdd, Int.reduceNeg, ↓reduceIte]
 refine aa_.call (f4_ x.Events (l) (by omega) (by omega) w_Events _) ?_
 by_cases hn_Events : ((ac_ ap_.sz) x.Events : Int) ≤ l
 case neg =>
  rw [an_ (n := (ac_ ap_.sz) x.Events) (l := l) (by omega)]
  simp (disch := omega) only [ab_, go_sem, reduceEqDiff, Int.reduceNeg, ↓reduceIte]
  rw [an_ (by omega)]; exact ae_ _ _
 rw [aI_ (n := (ac_ ap_.sz) x.Events) (l := l) hn_Events]
 simp (disch := omega) only [ab_, go_sem, reduceEqDiff, Int.reduceNeg, ↓reduceIte]
 refine ⟨fun hn => absurd hn (by omega), fun _ => ?_⟩
 rw [aI_ (by omega), hsz]
 have hfin : l - (((ac_ ap_.sz) x.Events : Nat) : Int) = l - (ac_ ap_.sz) x.Events := by omega
 rw [hfin]; exact ae_ _ _
theorem jX_ (x : aY_) (hb : aY_.sz x ≤ 1048576) (h : List Row) : aa_ prog 107 [.agg (aY_.cells x)] h (.agg (aY_.cells x)) := by
 have hsz : aY_.sz x = (ac_ ap_.sz) x.Events := rfl
 refine ai_ mixed Tryz.func107 sG_ rfl rfl ?_ h
 simp (disch := omega) only [pK_, uj_, aY_.cells, go_sem, reduceEqDiff, Nat.reduceAdd, reduceLeDiff, ↓reduceIte]
 refine aa_.call (f5_ x.Events (by omega) _) ?_
 simp (disch := omega) only [go_sem, reduceEqDiff, Nat.reduceAdd, ↓reduceIte, bu_]
 exact bk_ _ _ rfl
theorem kn_ (x : aY_) (hb : aY_.sz x ≤ 1048576) (h : List Row) : aa_ prog 124 [.agg (aY_.cells x), .agg (aY_.cells x)] h (.val (.bool true)) := by
 have hsz : aY_.sz x = (ac_ ap_.sz) x.Events := rfl
 refine ai_ mixed Tryz.func124 ui_ rfl rfl ?_ h
 simp (disch := omega) only [pC_, tc_, aY_.cells, ab_, go_sem, reduceEqDiff, Nat.reduceAdd, ↓reduceIte]
 refine aa_.call (f2_ x.Events (by omega) _) ?_
 simp (disch := omega) only [ab_, go_sem, ↓reduceIte]
 exact ae_ _ _
theorem iM_ (xs : List aE_) (l : Int) (h0 : 0 ≤ l) (h1 : l ≤ 1048576) (hw : a6_ aE_.wf xs) (h : List Row) : aa_ prog 41 [.list 0 4 (xs.map aE_.cells), .val (.int .i64 l)] h (.val (.int .i64 (szR (ac_ aE_.sz xs) l))) := by
 obtain ⟨hx, hs⟩ := hw
 refine ai_ mixed Tryz.func41 u5_ rfl rfl ?_ h
 simp (disch := omega) only [su_, c41, ab_, go_sem, reduceEqDiff, reduceCtorEq, Int.reduceNeg, ↓reduceIte, af_]
 refine ⟨fun hn => ?_, fun hn => ?_⟩
 ·rw [an_ (by simp only [ac_]; omega)]; exact ae_ _ _
 ·refine aP_ (fun n t h => ∃ (k : Nat) (m : Int), t 0 = .list 0 4 (xs.map aE_.cells) ∧ t 5 = .val (.int .i64 k) ∧ t 1 = .val (.int .i64 m) ∧ h = [] ∧ n = xs.length - k ∧ k ≤ xs.length ∧ 0 ≤ m ∧ m ≤ 1048576 ∧ szR (ac_ aE_.sz xs) l = szR (bi_ aE_.sz (xs.drop k)) m) xs.length ?_ ?_
  ·exact ⟨0, l - xs.length, rfl, rfl, rfl, rfl, rfl, Nat.zero_le _, by omega, by omega, bo_ (by omega)⟩
  ·rintro J hJ n t h ⟨k, m, t0, t5, t1, rfl, rfl, hk, hm0, hm1, hS⟩
   by_cases hlt : k < xs.length
   ·have hd := bL_ aE_.sz xs k hlt
    have hwk := hs _ (getElem_mem hlt)
    rw [hd] at hS
    simp (disch := omega) only [t0, t5, t1, hlt, aE_.cells, ab_, go_sem, reduceEqDiff, Nat.reduceAdd, reduceCtorEq, Int.reduceNeg, ↓reduceIte]
    refine aa_.call (kw_ xs[k] m hm0 hm1 hwk []) ?_
    by_cases hc : (aE_.sz xs[k] : Int) ≤ m
    ·rw [aI_ (n := aE_.sz xs[k]) (l := m) hc]
     simp (disch := omega) only [t5, ab_, go_sem, reduceEqDiff, Int.reduceNeg, ↓reduceIte, af_]
     refine ⟨fun hn2 => absurd hn2 (by omega), fun _ => ?_⟩
     exact ⟨xs.length - (k + 1), by omega, hJ _ _ _ ⟨k + 1, m - aE_.sz xs[k], by simp [upd, t0], by simp [upd], by simp [upd], rfl, rfl, by omega, by omega, by omega, by rw [hS, bo_ (by omega)]⟩⟩
    ·rw [an_ (n := aE_.sz xs[k]) (l := m) (by omega)]
     simp (disch := omega) only [t5, ab_, go_sem, reduceEqDiff, Int.reduceNeg, ↓reduceIte, af_]
     rw [hS, an_ (by omega)]; exact ae_ _ _
   ·simp (disch := omega) only [t0, t5, t1, hlt, ab_, go_sem, reduceEqDiff, reduceCtorEq, Int.reduceNeg, ↓reduceIte]
    rw [hS, drop_eq_nil_of_le (by omega), aI_ (by simp only [bi_]; omega)]
    simp only [bi_, Int.natCast_zero, Int.sub_zero]
    exact ae_ _ _
theorem jf_ (xs : List aE_) (hb : (ac_ aE_.sz) xs ≤ 1048576) (h : List Row) : aa_ prog 55 [.list 0 4 (xs.map aE_.cells)] h (.list 0 4 (xs.map aE_.cells)) := by
 have hx := Nat.le_trans (aW_ (f := aE_.sz) (xs := xs)) hb
 refine ai_ mixed Tryz.func55 vS_ rfl rfl ?_ h
 simp (disch := omega) only [q1_, c55, go_sem, reduceCtorEq, ↓reduceIte]
 refine ⟨by omega, by omega, ?_⟩
 refine aP_ (fun n t h => ∃ k : Nat, t 0 = .list 0 4 (xs.map aE_.cells) ∧ t 3 = .own 0 xs.length ∧ t 4 = .val (.int .i64 k) ∧ h = [⟨129, 4, a0_ (xs.map aE_.cells) [.val (.string ⟨#[]⟩), .val (.string ⟨#[]⟩), .val (.int .i64 0), .val (.slice none 0 0)] k⟩] ∧ n = xs.length - k ∧ k ≤ xs.length) xs.length ?_ ?_
 ·exact ⟨0, rfl, rfl, rfl, by rw [bA_]; simp, rfl, Nat.zero_le _⟩
 ·rintro J hJ n t h ⟨k, t0, t3, t4, rfl, rfl, hk⟩
  have fl : (a0_ (xs.map aE_.cells) [.val (.string ⟨#[]⟩), .val (.string ⟨#[]⟩), .val (.int .i64 0), .val (.slice none 0 0)] k).length = xs.length := by rw [br_ _ _ (by simpa using hk)]; simp
  by_cases hlt : k < xs.length
  ·have fg : (a0_ (xs.map aE_.cells) [.val (.string ⟨#[]⟩), .val (.string ⟨#[]⟩), .val (.int .i64 0), .val (.slice none 0 0)] k)[k]? = some [.val (.string ⟨#[]⟩), .val (.string ⟨#[]⟩), .val (.int .i64 0), .val (.slice none 0 0)] := bM_ _ _ (by simpa using hlt)
   have fs := bE_ (xs.map aE_.cells) [.val (.string ⟨#[]⟩), .val (.string ⟨#[]⟩), .val (.int .i64 0), .val (.slice none 0 0)] (aE_.cells xs[k]) (k := k) (by rw [getElem?_map, getElem?_eq_getElem hlt]; rfl)
   simp only [aE_.cells] at fs
   simp (disch := omega) only [t0, t3, t4, hlt, aE_.cells, ab_, go_sem, reduceEqDiff, Nat.reduceAdd, reduceCtorEq, ↓reduceIte]
   refine aa_.call (jE_ xs[k] (by have := a8_ (f := aE_.sz) (getElem_mem hlt); omega) _) ?_
   simp (disch := omega) only [t4, hlt, fl, fg, fs, aE_.cells, go_sem, reduceEqDiff, Nat.reduceAdd, ↓reduceIte, af_]
   exact ⟨xs.length - (k + 1), by omega, hJ _ _ _ ⟨k + 1, by simp [upd, t0], by simp [upd, t3], by simp [upd], rfl, rfl, by omega⟩⟩
  ·simp (disch := omega) only [t0, t3, t4, hlt, ab_, go_sem, reduceEqDiff, reduceCtorEq, ↓reduceIte]
   have ff : a0_ (xs.map aE_.cells) [.val (.string ⟨#[]⟩), .val (.string ⟨#[]⟩), .val (.int .i64 0), .val (.slice none 0 0)] k = xs.map aE_.cells := bK_ _ _ (by simp; omega)
   rw [ff]
   exact bF_ (r := ⟨129, 4, xs.map aE_.cells⟩) rfl (by simp) (by intro e he; obtain ⟨x, _, q⟩ := mem_map.1 he; subst q; rfl)
theorem iR_ (xs : List aE_) (hb : (ac_ aE_.sz) xs ≤ 1048576) (h : List Row) : aa_ prog 80 [.list 0 4 (xs.map aE_.cells), .list 0 4 (xs.map aE_.cells)] h (.val (.bool true)) := by
 have hx := Nat.le_trans (aW_ (f := aE_.sz) (xs := xs)) hb
 refine ai_ mixed Tryz.func80 wm_ rfl rfl ?_ h
 simp (disch := omega) only [se_, c80, ab_, go_sem, reduceEqDiff, reduceCtorEq, ↓reduceIte]
 refine aP_ (fun n t h => ∃ k : Nat, t 0 = .list 0 4 (xs.map aE_.cells) ∧ t 1 = .list 0 4 (xs.map aE_.cells) ∧ t 5 = .val (.int .i64 k) ∧ h = [] ∧ n = xs.length - k ∧ k ≤ xs.length) xs.length ?_ ?_
 ·exact ⟨0, rfl, rfl, rfl, rfl, rfl, Nat.zero_le _⟩
 ·rintro J hJ n t h ⟨k, t0, t1, t5, rfl, rfl, hk⟩
  by_cases hlt : k < xs.length
  ·simp (disch := omega) only [t0, t1, t5, hlt, aE_.cells, ab_, go_sem, reduceEqDiff, Nat.reduceAdd, reduceCtorEq, ↓reduceIte, af_]
   refine aa_.q (kg_ xs[k] (by have := a8_ (f := aE_.sz) (getElem_mem hlt); omega) _) ?_
   simp (disch := omega) only [go_sem]
   exact ⟨xs.length - (k + 1), by omega, hJ _ _ _ ⟨k + 1, by simp [upd, t0], by simp [upd, t1], by simp [upd], rfl, rfl, by omega⟩⟩
  ·simp (disch := omega) only [t0, t1, t5, hlt, ab_, go_sem, reduceEqDiff, reduceCtorEq, ↓reduceIte, af_]
   exact ae_ _ _
end Go.Proofs.YthahmhkbcdpkjaaGreat
