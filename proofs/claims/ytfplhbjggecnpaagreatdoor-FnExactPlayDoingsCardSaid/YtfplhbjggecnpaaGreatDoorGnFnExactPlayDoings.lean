/-
 Contracts of functions of this program, over abstract values. Conditions: as each theorem says.
-/
import Derived.Test.YtfplhbjggecnpaaGreatDoorShelf
namespace Go.Proofs.YtfplhbjggecnpaaGreatDoor
open Go.AW
set_option linter.unusedVariables false
set_option linter.unusedSimpArgs false
def c77 : LC :=
 .seq (.ops [.ki 4 0]) (.seq (.ops [.m 6 1, .m 7 0, .ll 8 7, .bb 9 .sub false 6 8, .m 1 9]) (.seq (.seq (.ops [.m 10 1, .bk 11 .lss false 10 0]) (.cond (.tmp 11) (.seq (.ops [.s 4 (.mov (.const (.int .i64 (-1))))]) .ret)
 .skip)) (.seq (.seq (.ops [.ki 5 0]) (.block 0 (.loop (.seq (.seq (.ops [.m 12 5, .m 13 0, .ll 14 13, .bb 15 .lss false 12 14]) (.cond (.tmp 15) .skip (.exit 0))) (.seq (.block 1 (.seq (.ops [.m 18 1, .m 19 0, .m 20 5,
 .ia 21 1 19 20, .ln 22 21, .s 23 (.lenStr (.tmp 22)), .bb 24 .sub false 18 23, .m 1 24]) (.seq (.ops [.m 25 1, .bk 26 .lss false 25 0]) (.cond (.tmp 26) (.seq (.ops [.s 4 (.mov (.const (.int .i64 (-1))))]) .ret)
 .skip)))) (.ops [.m 16 5, .bk 17 .add false 16 1, .m 5 17])))))) (.seq (.ops [.m 27 1, .m 4 27]) .ret))))
def zO_ : LF := ⟨2, 28, c77, [.tmp 4]⟩
theorem DD_ : at_ Tryz.prog Tryz.f77 zO_ := ai_
def c87 : LC :=
 .seq (.ops [.s 2 (.mov (.const (.slice none 0 0)))]) (.seq (.ops [.m 5 0, .ll 6 5, .s 7 (.mkSlice 9 1 16 (.string ⟨#[]⟩) (.tmp 6) (.tmp 6)), .m 3 7]) (.seq (.seq (.ops [.ki 4 0]) (.block 0 (.loop (.seq (.seq (.ops [.m 8
 4, .m 9 0, .ll 10 9, .bb 11 .lss false 8 10]) (.cond (.tmp 11) .skip (.exit 0))) (.seq (.block 1 (.ops [.m 14 3, .m 15 4, .m 16 0, .m 17 4, .ia 18 1 16 17, .ln 19 18, .ia 20 1 14 15, .st 1 20 19])) (.ops [.m 12 4, .bk 13
 .add false 12 1, .m 4 13])))))) (.seq (.ops [.m 21 3, .m 2 21]) .ret)))
def vy_ : LF := ⟨1, 22, c87, [.tmp 2]⟩
theorem wz_ : at_ Tryz.prog Tryz.f87 vy_ := ai_
def Cb_ : LC :=
 .seq (.ops [.s 4 (.mov (.const (.bool false)))]) (.seq (.seq (.ops [.m 6 0, .ll 7 6, .m 8 1, .ll 9 8, .bb 10 .neq false 7 9]) (.cond (.tmp 10) (.seq (.ops [.s 4 (.mov (.const (.bool false)))]) .ret) .skip)) (.seq (.seq
 (.ops [.ki 5 0]) (.block 0 (.loop (.seq (.seq (.ops [.m 11 5, .m 12 0, .ll 13 12, .bb 14 .lss false 11 13]) (.cond (.tmp 14) .skip (.exit 0))) (.seq (.block 1 (.seq (.dops [.m 17 0, .m 18 5, .ia 19 1 17 18, .ln 20 19, .m
 21 1, .m 22 5, .ia 23 1 21 22, .ln 24 23, .bb 25 .neq false 20 24]) (.cond (.tmp 25) (.seq (.ops [.s 4 (.mov (.const (.bool false)))]) .ret) .skip))) (.ops [.m 15 5, .bk 16 .add false 15 1, .m 5 16])))))) (.seq (.ops [.s
 4 (.mov (.const (.bool true)))]) .ret)))
def vX_ : LF := ⟨2, 26, Cb_, [.tmp 4]⟩
theorem A2_ : at_ Tryz.prog Tryz.f100 vX_ := ai_
def c40 : LC :=
 .seq (.ops [.s 2 (.box 74 (.tmp 0)), .ki 4 0]) (.seq (.ops [.m 5 1, .fa 6 1 2, .ln 7 6, .s 8 (.lenStr (.tmp 7)), .bb 9 .sub false 5 8, .m 1 9]) (.seq (.seq (.ops [.m 10 1, .bk 11 .lss false 10 0]) (.cond (.tmp 11) (.seq
 (.ops [.s 4 (.mov (.const (.int .i64 (-1))))]) .ret) .skip)) (.seq (.ops [.fa 12 2 2, .ln 13 12, .m 14 1, .c2 15 77 13 14, .m 1 15]) (.seq (.seq (.ops [.m 16 1, .bk 17 .lss false 16 0]) (.cond (.tmp 17) (.seq (.ops [.s 4
 (.mov (.const (.int .i64 (-1))))]) .ret) .skip)) (.seq (.ops [.m 18 1, .fa 19 3 2, .ln 20 19, .s 21 (.lenStr (.tmp 20)), .bb 22 .sub false 18 21, .m 1 22]) (.seq (.seq (.ops [.m 23 1, .bk 24 .lss false 23 0]) (.cond
 (.tmp 24) (.seq (.ops [.s 4 (.mov (.const (.int .i64 (-1))))]) .ret) .skip)) (.seq (.ops [.m 25 1, .m 4 25]) .ret)))))))
def zL_ : LF := ⟨2, 26, c40, [.tmp 4]⟩
theorem C9_ : at_ Tryz.prog Tryz.f40 zL_ := ai_
def c46 : LC :=
 .seq (.ops [.s 1 (.box 74 (.tmp 0)), .s 2 (.alloc 79 (.agg #[.int .i64 0, .string ⟨#[]⟩, .slice none 0 0, .string ⟨#[]⟩, .int .i64 0]))]) (.seq (.ops [.s 3 (.alloc 79 (.agg #[.int .i64 0, .string ⟨#[]⟩, .slice none 0 0,
 .string ⟨#[]⟩, .int .i64 0]))]) (.seq (.ops [.fa 4 0 1, .ln 5 4, .fa 6 0 3, .st 1 6 5]) (.seq (.ops [.fa 7 1 1, .ln 8 7, .fa 9 1 3, .st 1 9 8]) (.seq (.ops [.fa 10 2 1, .ln 11 10, .c1 12 87 11, .fa 13 2 3, .st 1 13 12])
 (.seq (.ops [.fa 14 3 1, .ln 15 14, .fa 16 3 3, .st 1 16 15]) (.seq (.ops [.fa 17 4 1, .ln 18 17, .fa 19 4 3, .st 1 19 18]) (.seq (.ops [.ld 20 5 3, .st 5 2 20]) .ret)))))))
def vK_ : LF := ⟨1, 21, c46, [.cell 2 (some 5)]⟩
theorem xi_ : at_ Tryz.prog Tryz.f46 vK_ := ai_
def c52 : LC :=
 .seq (.ops [.s 2 (.box 79 (.tmp 0)), .s 3 (.box 79 (.tmp 1)), .s 4 (.mov (.const (.bool false)))]) (.seq (.seq (.ops [.fa 5 0 2, .ln 6 5, .fa 7 0 3, .ln 8 7, .bb 9 .neq false 6 8]) (.cond (.tmp 9) (.seq (.ops [.s 4 (.mov
 (.const (.bool false)))]) .ret) .skip)) (.seq (.seq (.ops [.fa 10 1 2, .ln 11 10, .fa 12 1 3, .ln 13 12, .bb 14 .neq false 11 13]) (.cond (.tmp 14) (.seq (.ops [.s 4 (.mov (.const (.bool false)))]) .ret) .skip)) (.seq
 (.seq (.ops [.fa 15 2 2, .ln 16 15, .fa 17 2 3, .ln 18 17, .c2 19 100 16 18, .nt 20 19]) (.cond (.tmp 20) (.seq (.ops [.s 4 (.mov (.const (.bool false)))]) .ret) .skip)) (.seq (.seq (.ops [.fa 21 3 2, .ln 22 21, .fa 23 3
 3, .ln 24 23, .bb 25 .neq false 22 24]) (.cond (.tmp 25) (.seq (.ops [.s 4 (.mov (.const (.bool false)))]) .ret) .skip)) (.seq (.seq (.ops [.fa 26 4 2, .ln 27 26, .fa 28 4 3, .ln 29 28, .bb 30 .neq false 27 29]) (.cond
 (.tmp 30) (.seq (.ops [.s 4 (.mov (.const (.bool false)))]) .ret) .skip)) (.seq (.ops [.s 4 (.mov (.const (.bool true)))]) .ret))))))
def B5_ : LF := ⟨2, 31, c52, [.tmp 4]⟩
theorem Dn_ : at_ Tryz.prog Tryz.f52 B5_ := ai_
def c63 : LC :=
 .seq (.ops [.s 2 (.box 97 (.tmp 0)), .ki 4 0]) (.seq (.ops [.fa 5 1 2, .ld 6 5 5, .m 7 1, .c2 8 40 6 7, .m 1 8]) (.seq (.seq (.ops [.m 9 1, .bk 10 .lss false 9 0]) (.cond (.tmp 10) (.seq (.ops [.s 4 (.mov (.const (.int
 .i64 (-1))))]) .ret) .skip)) (.seq (.ops [.m 11 1, .m 4 11]) .ret)))
def AZ_ : LF := ⟨2, 12, c63, [.tmp 4]⟩
theorem DH_ : at_ Tryz.prog Tryz.f63 AZ_ := ai_
def c66 : LC :=
 .seq (.ops [.s 1 (.box 97 (.tmp 0)), .s 2 (.alloc 101 (.agg #[.int .i64 0, .int .i64 0, .string ⟨#[]⟩, .slice none 0 0, .string ⟨#[]⟩, .int .i64 0]))]) (.seq (.ops [.s 3 (.alloc 101 (.agg #[.int .i64 0, .int .i64 0,
 .string ⟨#[]⟩, .slice none 0 0, .string ⟨#[]⟩, .int .i64 0]))]) (.seq (.ops [.fa 4 0 1, .ln 5 4, .fa 6 0 3, .st 1 6 5]) (.seq (.ops [.fa 7 1 1, .ld 8 5 7, .c1 9 46 8, .fa 10 1 3, .st 5 10 9]) (.seq (.ops [.ld 11 6 3, .st
 6 2 11]) .ret))))
def u7_ : LF := ⟨1, 12, c66, [.cell 2 (some 6)]⟩
theorem wD_ : at_ Tryz.prog Tryz.f66 u7_ := ai_
def c68 : LC :=
 .seq (.ops [.s 2 (.box 101 (.tmp 0)), .s 3 (.box 101 (.tmp 1)), .s 4 (.mov (.const (.bool false)))]) (.seq (.seq (.ops [.fa 5 0 2, .ln 6 5, .fa 7 0 3, .ln 8 7, .bb 9 .neq false 6 8]) (.cond (.tmp 9) (.seq (.ops [.s 4
 (.mov (.const (.bool false)))]) .ret) .skip)) (.seq (.seq (.ops [.fa 10 1 2, .ld 11 5 10, .fa 12 1 3, .ld 13 5 12, .c2 14 52 11 13, .nt 15 14]) (.cond (.tmp 15) (.seq (.ops [.s 4 (.mov (.const (.bool false)))]) .ret)
 .skip)) (.seq (.ops [.s 4 (.mov (.const (.bool true)))]) .ret)))
def zn_ : LF := ⟨2, 16, c68, [.tmp 4]⟩
theorem DZ_ : at_ Tryz.prog Tryz.f68 zn_ := ai_
def c76 : LC :=
 .seq (.ops [.s 2 (.box 111 (.tmp 0)), .ki 4 0]) (.seq (.ops [.m 5 1, .fa 6 0 2, .ln 7 6, .s 8 (.lenStr (.tmp 7)), .bb 9 .sub false 5 8, .m 1 9]) (.seq (.seq (.ops [.m 10 1, .bk 11 .lss false 10 0]) (.cond (.tmp 11) (.seq
 (.ops [.s 4 (.mov (.const (.int .i64 (-1))))]) .ret) .skip)) (.seq (.ops [.fa 12 1 2, .ln 13 12, .m 14 1, .c2 15 77 13 14, .m 1 15]) (.seq (.seq (.ops [.m 16 1, .bk 17 .lss false 16 0]) (.cond (.tmp 17) (.seq (.ops [.s 4
 (.mov (.const (.int .i64 (-1))))]) .ret) .skip)) (.seq (.ops [.m 18 1, .fa 19 2 2, .ln 20 19, .s 21 (.lenStr (.tmp 20)), .bb 22 .sub false 18 21, .m 1 22]) (.seq (.seq (.ops [.m 23 1, .bk 24 .lss false 23 0]) (.cond
 (.tmp 24) (.seq (.ops [.s 4 (.mov (.const (.int .i64 (-1))))]) .ret) .skip)) (.seq (.ops [.m 25 1, .m 4 25]) .ret)))))))
def AD_ : LF := ⟨2, 26, c76, [.tmp 4]⟩
theorem De_ : at_ Tryz.prog Tryz.f76 AD_ := ai_
def c86 : LC :=
 .seq (.ops [.s 1 (.box 111 (.tmp 0)), .s 2 (.alloc 112 (.agg #[.string ⟨#[]⟩, .slice none 0 0, .string ⟨#[]⟩]))]) (.seq (.ops [.s 3 (.alloc 112 (.agg #[.string ⟨#[]⟩, .slice none 0 0, .string ⟨#[]⟩]))]) (.seq (.ops [.fa
 4 0 1, .ln 5 4, .fa 6 0 3, .st 1 6 5]) (.seq (.ops [.fa 7 1 1, .ln 8 7, .c1 9 87 8, .fa 10 1 3, .st 1 10 9]) (.seq (.ops [.fa 11 2 1, .ln 12 11, .fa 13 2 3, .st 1 13 12]) (.seq (.ops [.ld 14 3 3, .st 3 2 14]) .ret)))))
def uS_ : LF := ⟨1, 15, c86, [.cell 2 (some 3)]⟩
theorem w4_ : at_ Tryz.prog Tryz.f86 uS_ := ai_
def c99 : LC :=
 .seq (.ops [.s 2 (.box 112 (.tmp 0)), .s 3 (.box 112 (.tmp 1)), .s 4 (.mov (.const (.bool false)))]) (.seq (.seq (.ops [.fa 5 0 2, .ln 6 5, .fa 7 0 3, .ln 8 7, .bb 9 .neq false 6 8]) (.cond (.tmp 9) (.seq (.ops [.s 4
 (.mov (.const (.bool false)))]) .ret) .skip)) (.seq (.seq (.ops [.fa 10 1 2, .ln 11 10, .fa 12 1 3, .ln 13 12, .c2 14 100 11 13, .nt 15 14]) (.cond (.tmp 15) (.seq (.ops [.s 4 (.mov (.const (.bool false)))]) .ret)
 .skip)) (.seq (.seq (.ops [.fa 16 2 2, .ln 17 16, .fa 18 2 3, .ln 19 18, .bb 20 .neq false 17 19]) (.cond (.tmp 20) (.seq (.ops [.s 4 (.mov (.const (.bool false)))]) .ret) .skip)) (.seq (.ops [.s 4 (.mov (.const (.bool
 true)))]) .ret))))
def y3_ : LF := ⟨2, 21, c99, [.tmp 4]⟩
theorem DL_ : at_ Tryz.prog Tryz.f99 y3_ := ai_
def c39 : LC :=
 .seq (.ops [.ki 4 0]) (.seq (.ops [.m 6 1, .m 7 0, .ll 8 7, .bb 9 .sub false 6 8, .m 1 9]) (.seq (.seq (.ops [.m 10 1, .bk 11 .lss false 10 0]) (.cond (.tmp 11) (.seq (.ops [.s 4 (.mov (.const (.int .i64 (-1))))]) .ret)
 .skip)) (.seq (.seq (.ops [.ki 5 0]) (.block 0 (.loop (.seq (.seq (.ops [.m 12 5, .m 13 0, .ll 14 13, .bb 15 .lss false 12 14]) (.cond (.tmp 15) .skip (.exit 0))) (.seq (.block 1 (.seq (.ops [.m 18 0, .m 19 5, .ia 20 3
 18 19, .ld 21 3 20, .m 22 1, .c2 23 76 21 22, .m 1 23]) (.seq (.ops [.m 24 1, .bk 25 .lss false 24 0]) (.cond (.tmp 25) (.seq (.ops [.s 4 (.mov (.const (.int .i64 (-1))))]) .ret) .skip)))) (.ops [.m 16 5, .bk 17 .add
 false 16 1, .m 5 17])))))) (.seq (.ops [.m 26 1, .m 4 26]) .ret))))
def Bj_ : LF := ⟨2, 27, c39, [.tmp 4]⟩
theorem Dx_ : at_ Tryz.prog Tryz.f39 Bj_ := ai_
def c45 : LC :=
 .seq (.ops [.s 2 (.mov (.const (.slice none 0 0)))]) (.seq (.ops [.m 5 0, .ll 6 5, .s 7 (.mkSlice 112 3 56 (.agg #[.string ⟨#[]⟩, .slice none 0 0, .string ⟨#[]⟩]) (.tmp 6) (.tmp 6)), .m 3 7]) (.seq (.seq (.ops [.ki 4 0])
 (.block 0 (.loop (.seq (.seq (.ops [.m 8 4, .m 9 0, .ll 10 9, .bb 11 .lss false 8 10]) (.cond (.tmp 11) .skip (.exit 0))) (.seq (.block 1 (.ops [.m 14 3, .m 15 4, .m 16 0, .m 17 4, .ia 18 3 16 17, .ld 19 3 18, .c1 20 86
 19, .ia 21 3 14 15, .st 3 21 20])) (.ops [.m 12 4, .bk 13 .add false 12 1, .m 4 13])))))) (.seq (.ops [.m 22 3, .m 2 22]) .ret)))
def uZ_ : LF := ⟨1, 23, c45, [.tmp 2]⟩
theorem w1_ : at_ Tryz.prog Tryz.f45 uZ_ := ai_
def c51 : LC :=
 .seq (.ops [.s 4 (.mov (.const (.bool false)))]) (.seq (.seq (.ops [.m 6 0, .ll 7 6, .m 8 1, .ll 9 8, .bb 10 .neq false 7 9]) (.cond (.tmp 10) (.seq (.ops [.s 4 (.mov (.const (.bool false)))]) .ret) .skip)) (.seq (.seq
 (.ops [.ki 5 0]) (.block 0 (.loop (.seq (.seq (.ops [.m 11 5, .m 12 0, .ll 13 12, .bb 14 .lss false 11 13]) (.cond (.tmp 14) .skip (.exit 0))) (.seq (.block 1 (.seq (.dops [.m 17 0, .m 18 5, .ia 19 3 17 18, .ld 20 3 19,
 .m 21 1, .m 22 5, .ia 23 3 21 22, .ld 24 3 23, .c2 25 99 20 24, .nt 26 25]) (.cond (.tmp 26) (.seq (.ops [.s 4 (.mov (.const (.bool false)))]) .ret) .skip))) (.ops [.m 15 5, .bk 16 .add false 15 1, .m 5 16])))))) (.seq
 (.ops [.s 4 (.mov (.const (.bool true)))]) .ret)))
def zr_ : LF := ⟨2, 27, c51, [.tmp 4]⟩
theorem DE_ : at_ Tryz.prog Tryz.f51 zr_ := ai_
def c25 : LC :=
 .seq (.ops [.ki 4 0]) (.seq (.ops [.m 6 1, .m 7 0, .ll 8 7, .bb 9 .sub false 6 8, .m 1 9]) (.seq (.seq (.ops [.m 10 1, .bk 11 .lss false 10 0]) (.cond (.tmp 11) (.seq (.ops [.s 4 (.mov (.const (.int .i64 (-1))))]) .ret)
 .skip)) (.seq (.seq (.ops [.ki 5 0]) (.block 0 (.loop (.seq (.seq (.ops [.m 12 5, .m 13 0, .ll 14 13, .bb 15 .lss false 12 14]) (.cond (.tmp 15) .skip (.exit 0))) (.seq (.block 1 (.seq (.ops [.m 18 0, .m 19 5, .ia 20 6
 18 19, .ld 21 6 20, .m 22 1, .c2 23 63 21 22, .m 1 23]) (.seq (.ops [.m 24 1, .bk 25 .lss false 24 0]) (.cond (.tmp 25) (.seq (.ops [.s 4 (.mov (.const (.int .i64 (-1))))]) .ret) .skip)))) (.ops [.m 16 5, .bk 17 .add
 false 16 1, .m 5 17])))))) (.seq (.ops [.m 26 1, .m 4 26]) .ret))))
def AX_ : LF := ⟨2, 27, c25, [.tmp 4]⟩
theorem DA_ : at_ Tryz.prog Tryz.f25 AX_ := ai_
def c27 : LC :=
 .seq (.ops [.s 2 (.mov (.const (.slice none 0 0)))]) (.seq (.ops [.m 5 0, .ll 6 5, .s 7 (.mkSlice 101 6 80 (.agg #[.int .i64 0, .int .i64 0, .string ⟨#[]⟩, .slice none 0 0, .string ⟨#[]⟩, .int .i64 0]) (.tmp 6) (.tmp
 6)), .m 3 7]) (.seq (.seq (.ops [.ki 4 0]) (.block 0 (.loop (.seq (.seq (.ops [.m 8 4, .m 9 0, .ll 10 9, .bb 11 .lss false 8 10]) (.cond (.tmp 11) .skip (.exit 0))) (.seq (.block 1 (.ops [.m 14 3, .m 15 4, .m 16 0, .m 17
 4, .ia 18 6 16 17, .ld 19 6 18, .c1 20 66 19, .ia 21 6 14 15, .st 6 21 20])) (.ops [.m 12 4, .bk 13 .add false 12 1, .m 4 13])))))) (.seq (.ops [.m 22 3, .m 2 22]) .ret)))
def uv_ : LF := ⟨1, 23, c27, [.tmp 2]⟩
theorem v1_ : at_ Tryz.prog Tryz.f27 uv_ := ai_
def c29 : LC :=
 .seq (.ops [.s 4 (.mov (.const (.bool false)))]) (.seq (.seq (.ops [.m 6 0, .ll 7 6, .m 8 1, .ll 9 8, .bb 10 .neq false 7 9]) (.cond (.tmp 10) (.seq (.ops [.s 4 (.mov (.const (.bool false)))]) .ret) .skip)) (.seq (.seq
 (.ops [.ki 5 0]) (.block 0 (.loop (.seq (.seq (.ops [.m 11 5, .m 12 0, .ll 13 12, .bb 14 .lss false 11 13]) (.cond (.tmp 14) .skip (.exit 0))) (.seq (.block 1 (.seq (.dops [.m 17 0, .m 18 5, .ia 19 6 17 18, .ld 20 6 19,
 .m 21 1, .m 22 5, .ia 23 6 21 22, .ld 24 6 23, .c2 25 68 20 24, .nt 26 25]) (.cond (.tmp 26) (.seq (.ops [.s 4 (.mov (.const (.bool false)))]) .ret) .skip))) (.ops [.m 15 5, .bk 16 .add false 15 1, .m 5 16])))))) (.seq
 (.ops [.s 4 (.mov (.const (.bool true)))]) .ret)))
def AU_ : LF := ⟨2, 27, c29, [.tmp 4]⟩
theorem Du_ : at_ Tryz.prog Tryz.f29 AU_ := ai_
def c8 : LC :=
 .seq (.ops [.s 2 (.box 24 (.tmp 0)), .ki 4 0]) (.seq (.ops [.fa 5 0 2, .ln 6 5, .m 7 1, .c2 8 39 6 7, .m 1 8]) (.seq (.seq (.ops [.m 9 1, .bk 10 .lss false 9 0]) (.cond (.tmp 10) (.seq (.ops [.s 4 (.mov (.const (.int
 .i64 (-1))))]) .ret) .skip)) (.seq (.ops [.m 11 1, .m 4 11]) .ret)))
def lf8 : LF := ⟨2, 12, c8, [.tmp 4]⟩
theorem Ee_ : at_ Tryz.prog Tryz.f8 lf8 := ai_
def c11 : LC :=
 .seq (.ops [.s 1 (.box 24 (.tmp 0)), .s 2 (.alloc 30 (.agg #[.slice none 0 0]))]) (.seq (.ops [.s 3 (.alloc 30 (.agg #[.slice none 0 0]))]) (.seq (.ops [.fa 4 0 1, .ln 5 4, .c1 6 45 5, .fa 7 0 3, .st 1 7 6]) (.seq (.ops
 [.ld 8 1 3, .st 1 2 8]) .ret)))
def vh_ : LF := ⟨1, 9, c11, [.cell 2 (some 1)]⟩
theorem xF_ : at_ Tryz.prog Tryz.f11 vh_ := ai_
def c14 : LC :=
 .seq (.ops [.s 2 (.box 30 (.tmp 0)), .s 3 (.box 30 (.tmp 1)), .s 4 (.mov (.const (.bool false)))]) (.seq (.seq (.ops [.fa 5 0 2, .ln 6 5, .fa 7 0 3, .ln 8 7, .c2 9 51 6 8, .nt 10 9]) (.cond (.tmp 10) (.seq (.ops [.s 4
 (.mov (.const (.bool false)))]) .ret) .skip)) (.seq (.ops [.s 4 (.mov (.const (.bool true)))]) .ret))
def zx_ : LF := ⟨2, 11, c14, [.tmp 4]⟩
theorem Dq_ : at_ Tryz.prog Tryz.f14 zx_ := ai_
theorem kW_ (xs : List ByteArray) (l : Int) (h0 : 0 ≤ l) (h1 : l ≤ 1048576) (hw : d4_ do_ xs) (h : List Row) : aa_ Tryz.prog 77 [.list 0 1 (xs.map al_), .val (.int .i64 l)] h (.val (.int .i64 (szR (au_ ByteArray.size xs) l))) := by
 obtain ⟨hx, hs⟩ := hw
 refine aj_ mixed Tryz.func77 DD_ rfl rfl ?_ h
 simp (disch := omega) only [zO_, c77, ag_, go_sem, Nat.reduceEqDiff, reduceCtorEq, Int.reduceNeg, ↓reduceIte, aq_]
 refine ⟨fun hn => ?_, fun hn => ?_⟩
 ·rw [cb_ (by simp only [au_]; omega)]; exact af_ _ _
 ·refine aM_ (fun n t h => ∃ (k : Nat) (m : Int), t 0 = .list 0 1 (xs.map al_) ∧ t 5 = .val (.int .i64 k) ∧ t 1 = .val (.int .i64 m) ∧ h = [] ∧ n = xs.length - k ∧ k ≤ xs.length ∧ 0 ≤ m ∧ m ≤ 1048576 ∧ szR (au_ ByteArray.size xs) l = szR (b8_ ByteArray.size (xs.drop k)) m) xs.length ?_ ?_
  ·exact ⟨0, l - xs.length, rfl, rfl, rfl, rfl, rfl, Nat.zero_le _, by omega, by omega, hH_ (by omega)⟩
  ·rintro J hJ n t h ⟨k, m, t0, t5, t1, rfl, rfl, hk, hm0, hm1, hS⟩
   by_cases hlt : k < xs.length
   ·have hd := jq_ ByteArray.size xs k hlt
    have hwk := hs _ (List.getElem_mem hlt)
    rw [hd] at hS
    unfold do_ at hwk
    simp (disch := omega) only [t0, t5, t1, hlt, ag_, go_sem, Nat.reduceEqDiff, reduceCtorEq, Int.reduceNeg, ↓reduceIte, aq_]
    refine ⟨fun hn2 => ?_, fun hn2 => ?_⟩
    ·rw [hS, cb_ (by omega)]; exact af_ _ _
    ·exact ⟨xs.length - (k + 1), by omega, hJ _ _ _ ⟨k + 1, m - xs[k].size, by simp [upd, t0], by simp [upd], by simp [upd], rfl, rfl, by omega, by omega, by omega, by rw [hS, hH_ (by omega)]⟩⟩
   ·simp (disch := omega) only [t0, t5, t1, hlt, ag_, go_sem, Nat.reduceEqDiff, reduceCtorEq, Int.reduceNeg, ↓reduceIte]
    rw [hS, List.drop_eq_nil_of_le (by omega), c7_ (by simp only [b8_]; omega)]
    simp only [b8_, Int.natCast_zero, Int.sub_zero]
    exact af_ _ _
theorem kK_ (xs : List ByteArray) (hb : (au_ ByteArray.size) xs ≤ 1048576) (h : List Row) : aa_ Tryz.prog 87 [.list 0 1 (xs.map al_)] h (.list 0 1 (xs.map al_)) := by
 have hx := Nat.le_trans (cw_ (f := ByteArray.size) (xs := xs)) hb
 refine aj_ mixed Tryz.func87 wz_ rfl rfl ?_ h
 simp (disch := omega) only [vy_, c87, go_sem, reduceCtorEq, ↓reduceIte]
 refine ⟨by omega, by omega, ?_⟩
 refine aM_ (fun n t h => ∃ k : Nat, t 0 = .list 0 1 (xs.map al_) ∧ t 3 = .own 0 xs.length ∧ t 4 = .val (.int .i64 k) ∧ h = [⟨9, 1, bT_ (xs.map al_) [.val (.string ⟨#[]⟩)] k⟩] ∧ n = xs.length - k ∧ k ≤ xs.length) xs.length ?_ ?_
 ·exact ⟨0, rfl, rfl, rfl, by rw [gR_]; simp, rfl, Nat.zero_le _⟩
 ·rintro J hJ n t h ⟨k, t0, t3, t4, rfl, rfl, hk⟩
  have fl : (bT_ (xs.map al_) [.val (.string ⟨#[]⟩)] k).length = xs.length := by rw [fN_ _ _ (by simpa using hk)]; simp
  by_cases hlt : k < xs.length
  ·have fg : (bT_ (xs.map al_) [.val (.string ⟨#[]⟩)] k)[k]? = some [.val (.string ⟨#[]⟩)] := hz_ _ _ (by simpa using hlt)
   have fs := gV_ (xs.map al_) [.val (.string ⟨#[]⟩)] (al_ xs[k]) (k := k) (by rw [List.getElem?_map, List.getElem?_eq_getElem hlt]; rfl)
   simp (disch := omega) only [t0, t3, t4, hlt, fl, fg, ag_, go_sem, Nat.reduceEqDiff, reduceCtorEq, ↓reduceIte, aq_]
   try simp (disch := omega) only [fs, go_sem]
   exact ⟨xs.length - (k + 1), by omega, hJ _ _ _ ⟨k + 1, by simp [upd, t0], by simp [upd, t3], by simp [upd], by simp [], rfl, by omega⟩⟩
  ·simp (disch := omega) only [t0, t3, t4, hlt, fl, ag_, go_sem, Nat.reduceEqDiff, reduceCtorEq, ↓reduceIte]
   have ff : bT_ (xs.map al_) [.val (.string ⟨#[]⟩)] k = xs.map al_ := hv_ _ _ (by simp; omega)
   rw [ff]
   exact iR_ (r := ⟨9, 1, xs.map al_⟩) rfl (by simp) (by intro e he; obtain ⟨x, _, q⟩ := List.mem_map.1 he; subst q; rfl)
theorem kp_ (xs : List ByteArray) (hb : (au_ ByteArray.size) xs ≤ 1048576) (h : List Row) : aa_ Tryz.prog 100 [.list 0 1 (xs.map al_), .list 0 1 (xs.map al_)] h (.val (.bool true)) := by
 have hx := Nat.le_trans (cw_ (f := ByteArray.size) (xs := xs)) hb
 refine aj_ mixed Tryz.func100 A2_ rfl rfl ?_ h
 simp (disch := omega) only [vX_, Cb_, ag_, go_sem, Nat.reduceEqDiff, reduceCtorEq, ↓reduceIte]
 refine aM_ (fun n t h => ∃ k : Nat, t 0 = .list 0 1 (xs.map al_) ∧ t 1 = .list 0 1 (xs.map al_) ∧ t 5 = .val (.int .i64 k) ∧ h = [] ∧ n = xs.length - k ∧ k ≤ xs.length) xs.length ?_ ?_
 ·exact ⟨0, rfl, rfl, rfl, rfl, rfl, Nat.zero_le _⟩
 ·rintro J hJ n t h ⟨k, t0, t1, t5, rfl, rfl, hk⟩
  by_cases hlt : k < xs.length
  ·simp (disch := omega) only [t0, t1, t5, hlt, ag_, go_sem, Nat.reduceEqDiff, reduceCtorEq, ↓reduceIte, aq_]
   exact ⟨xs.length - (k + 1), by omega, hJ _ _ _ ⟨k + 1, by simp [upd, t0], by simp [upd, t1], by simp [upd], rfl, rfl, by omega⟩⟩
  ·simp (disch := omega) only [t0, t1, t5, hlt, ag_, go_sem, Nat.reduceEqDiff, reduceCtorEq, ↓reduceIte, aq_]
   exact af_ _ _
theorem rU_ (x : ac_) (l : Int) (h0 : 0 ≤ l) (h1 : l ≤ 1048576) (hw : ac_.wf x) (h : List Row) : aa_ Tryz.prog 40 [.agg (ac_.cells x), .val (.int .i64 l)] h (.val (.int .i64 (szR (ac_.sz x) l))) := by
 obtain ⟨w_Kind, w_Name, w_Subs, w_Value, w_N, _⟩ := hw
 have hsz : ac_.sz x = ByteArray.size x.Name + (au_ ByteArray.size) x.Subs + ByteArray.size x.Value := rfl
 refine aj_ mixed Tryz.func40 C9_ rfl rfl ?_ h
 unfold do_ at w_Name
 unfold do_ at w_Value
 simp (disch := omega) only [zL_, c40, ac_.cells, ag_, go_sem, Nat.reduceEqDiff, Nat.reduceAdd, Int.reduceNeg, ↓reduceIte, aq_]
 refine ⟨fun hn => ?_, fun hn_Name => ?_⟩
 ·rw [cb_ (by omega)]; exact af_ _ _
 try simp (disch := omega) only [aq_]
 refine aa_.call (kW_ x.Subs (l - ByteArray.size x.Name) (by omega) (by omega) w_Subs _) ?_
 by_cases hn_Subs : ((au_ ByteArray.size) x.Subs : Int) ≤ l - ByteArray.size x.Name
 case neg =>
  rw [cb_ (n := (au_ ByteArray.size) x.Subs) (l := l - ByteArray.size x.Name) (by omega)]
  simp (disch := omega) only [ag_, go_sem, Nat.reduceEqDiff, Int.reduceNeg, ↓reduceIte, aq_]
  rw [cb_ (by omega)]; exact af_ _ _
 rw [c7_ (n := (au_ ByteArray.size) x.Subs) (l := l - ByteArray.size x.Name) hn_Subs]
 simp (disch := omega) only [ag_, go_sem, Nat.reduceEqDiff, Int.reduceNeg, ↓reduceIte, aq_]
 refine ⟨fun hn => absurd hn (by omega), fun _ => ?_⟩
 refine ⟨fun hn => ?_, fun hn_Value => ?_⟩
 ·rw [cb_ (by omega)]; exact af_ _ _
 try simp (disch := omega) only [aq_]
 rw [c7_ (by omega), hsz]
 have hfin : l - ((ByteArray.size x.Name + (au_ ByteArray.size) x.Subs + ByteArray.size x.Value : Nat) : Int) = l - ByteArray.size x.Name - (au_ ByteArray.size) x.Subs - ByteArray.size x.Value := by omega
 rw [hfin]; exact af_ _ _
theorem sj_ (x : ac_) (hb : ac_.sz x ≤ 1048576) (h : List Row) : aa_ Tryz.prog 46 [.agg (ac_.cells x)] h (.agg (ac_.cells x)) := by
 have hsz : ac_.sz x = ByteArray.size x.Name + (au_ ByteArray.size) x.Subs + ByteArray.size x.Value := rfl
 refine aj_ mixed Tryz.func46 xi_ rfl rfl ?_ h
 simp (disch := omega) only [vK_, c46, ac_.cells, go_sem, Nat.reduceEqDiff, Nat.reduceAdd, Nat.reduceLeDiff, ↓reduceIte]
 refine aa_.call (kK_ x.Subs (by omega) _) ?_
 simp (disch := omega) only [go_sem, Nat.reduceEqDiff, Nat.reduceAdd, Nat.reduceLeDiff, ↓reduceIte, cA_]
 exact gQ_ _ _ rfl
theorem rs_ (x : ac_) (hb : ac_.sz x ≤ 1048576) (h : List Row) : aa_ Tryz.prog 52 [.agg (ac_.cells x), .agg (ac_.cells x)] h (.val (.bool true)) := by
 have hsz : ac_.sz x = ByteArray.size x.Name + (au_ ByteArray.size) x.Subs + ByteArray.size x.Value := rfl
 refine aj_ mixed Tryz.func52 Dn_ rfl rfl ?_ h
 simp (disch := omega) only [B5_, c52, ac_.cells, ag_, go_sem, Nat.reduceEqDiff, Nat.reduceAdd, ↓reduceIte]
 refine aa_.call (kp_ x.Subs (by omega) _) ?_
 simp (disch := omega) only [ag_, go_sem, Nat.reduceEqDiff, ↓reduceIte]
 exact af_ _ _
theorem rZ_ (x : ah_) (l : Int) (h0 : 0 ≤ l) (h1 : l ≤ 1048576) (hw : ah_.wf x) (h : List Row) : aa_ Tryz.prog 63 [.agg (ah_.cells x), .val (.int .i64 l)] h (.val (.int .i64 (szR (ah_.sz x) l))) := by
 obtain ⟨w_Job, w_Event, _⟩ := hw
 have hsz : ah_.sz x = ac_.sz x.Event := rfl
 refine aj_ mixed Tryz.func63 DH_ rfl rfl ?_ h
 simp (disch := omega) only [AZ_, c63, ah_.cells, go_sem, Nat.reduceEqDiff, Nat.reduceAdd, Int.reduceNeg, ↓reduceIte]
 refine aa_.call (rU_ x.Event (l) (by omega) (by omega) w_Event _) ?_
 by_cases hn_Event : (ac_.sz x.Event : Int) ≤ l
 case neg =>
  rw [cb_ (n := ac_.sz x.Event) (l := l) (by omega)]
  simp (disch := omega) only [ag_, go_sem, Nat.reduceEqDiff, Int.reduceNeg, ↓reduceIte]
  rw [cb_ (by omega)]; exact af_ _ _
 rw [c7_ (n := ac_.sz x.Event) (l := l) hn_Event]
 simp (disch := omega) only [ag_, go_sem, Nat.reduceEqDiff, Int.reduceNeg, ↓reduceIte]
 refine ⟨fun hn => absurd hn (by omega), fun _ => ?_⟩
 rw [c7_ (by omega), hsz]
 have hfin : l - ((ac_.sz x.Event : Nat) : Int) = l - ac_.sz x.Event := by omega
 rw [hfin]; exact af_ _ _
theorem sP_ (x : ah_) (hb : ah_.sz x ≤ 1048576) (h : List Row) : aa_ Tryz.prog 66 [.agg (ah_.cells x)] h (.agg (ah_.cells x)) := by
 have hsz : ah_.sz x = ac_.sz x.Event := rfl
 refine aj_ mixed Tryz.func66 wD_ rfl rfl ?_ h
 simp (disch := omega) only [u7_, c66, ah_.cells, go_sem, Nat.reduceEqDiff, Nat.reduceAdd, Nat.reduceLeDiff, ↓reduceIte]
 refine aa_.call (sj_ x.Event (by omega) _) ?_
 simp (disch := omega) only [ac_.cells, go_sem, Nat.reduceEqDiff, Nat.reduceAdd, ↓reduceIte, cA_]
 exact gQ_ _ _ rfl
theorem sv_ (x : ah_) (hb : ah_.sz x ≤ 1048576) (h : List Row) : aa_ Tryz.prog 68 [.agg (ah_.cells x), .agg (ah_.cells x)] h (.val (.bool true)) := by
 have hsz : ah_.sz x = ac_.sz x.Event := rfl
 refine aj_ mixed Tryz.func68 DZ_ rfl rfl ?_ h
 simp (disch := omega) only [zn_, c68, ah_.cells, ag_, go_sem, Nat.reduceEqDiff, Nat.reduceAdd, ↓reduceIte]
 refine aa_.call (rs_ x.Event (by omega) _) ?_
 simp (disch := omega) only [ag_, go_sem, ↓reduceIte]
 exact af_ _ _
theorem te_ (x : ab_) (l : Int) (h0 : 0 ≤ l) (h1 : l ≤ 1048576) (hw : ab_.wf x) (h : List Row) : aa_ Tryz.prog 76 [.agg (ab_.cells x), .val (.int .i64 l)] h (.val (.int .i64 (szR (ab_.sz x) l))) := by
 obtain ⟨w_Name, w_Subs, w_Value, _⟩ := hw
 have hsz : ab_.sz x = ByteArray.size x.Name + (au_ ByteArray.size) x.Subs + ByteArray.size x.Value := rfl
 refine aj_ mixed Tryz.func76 De_ rfl rfl ?_ h
 unfold do_ at w_Name
 unfold do_ at w_Value
 simp (disch := omega) only [AD_, c76, ab_.cells, ag_, go_sem, Nat.reduceEqDiff, Nat.reduceAdd, Int.reduceNeg, ↓reduceIte, aq_]
 refine ⟨fun hn => ?_, fun hn_Name => ?_⟩
 ·rw [cb_ (by omega)]; exact af_ _ _
 try simp (disch := omega) only [aq_]
 refine aa_.call (kW_ x.Subs (l - ByteArray.size x.Name) (by omega) (by omega) w_Subs _) ?_
 by_cases hn_Subs : ((au_ ByteArray.size) x.Subs : Int) ≤ l - ByteArray.size x.Name
 case neg =>
  rw [cb_ (n := (au_ ByteArray.size) x.Subs) (l := l - ByteArray.size x.Name) (by omega)]
  simp (disch := omega) only [ag_, go_sem, Nat.reduceEqDiff, Int.reduceNeg, ↓reduceIte, aq_]
  rw [cb_ (by omega)]; exact af_ _ _
 rw [c7_ (n := (au_ ByteArray.size) x.Subs) (l := l - ByteArray.size x.Name) hn_Subs]
 simp (disch := omega) only [ag_, go_sem, Nat.reduceEqDiff, Int.reduceNeg, ↓reduceIte, aq_]
 refine ⟨fun hn => absurd hn (by omega), fun _ => ?_⟩
 refine ⟨fun hn => ?_, fun hn_Value => ?_⟩
 ·rw [cb_ (by omega)]; exact af_ _ _
 try simp (disch := omega) only [aq_]
 rw [c7_ (by omega), hsz]
 have hfin : l - ((ByteArray.size x.Name + (au_ ByteArray.size) x.Subs + ByteArray.size x.Value : Nat) : Int) = l - ByteArray.size x.Name - (au_ ByteArray.size) x.Subs - ByteArray.size x.Value := by omega
 rw [hfin]; exact af_ _ _
theorem tz_ (x : ab_) (hb : ab_.sz x ≤ 1048576) (h : List Row) : aa_ Tryz.prog 86 [.agg (ab_.cells x)] h (.agg (ab_.cells x)) := by
 have hsz : ab_.sz x = ByteArray.size x.Name + (au_ ByteArray.size) x.Subs + ByteArray.size x.Value := rfl
 refine aj_ mixed Tryz.func86 w4_ rfl rfl ?_ h
 simp (disch := omega) only [uS_, c86, ab_.cells, go_sem, Nat.reduceEqDiff, Nat.reduceAdd, Nat.reduceLeDiff, ↓reduceIte]
 refine aa_.call (kK_ x.Subs (by omega) _) ?_
 simp (disch := omega) only [go_sem, Nat.reduceEqDiff, Nat.reduceAdd, Nat.reduceLeDiff, ↓reduceIte, cA_]
 exact gQ_ _ _ rfl
theorem sV_ (x : ab_) (hb : ab_.sz x ≤ 1048576) (h : List Row) : aa_ Tryz.prog 99 [.agg (ab_.cells x), .agg (ab_.cells x)] h (.val (.bool true)) := by
 have hsz : ab_.sz x = ByteArray.size x.Name + (au_ ByteArray.size) x.Subs + ByteArray.size x.Value := rfl
 refine aj_ mixed Tryz.func99 DL_ rfl rfl ?_ h
 simp (disch := omega) only [y3_, c99, ab_.cells, ag_, go_sem, Nat.reduceEqDiff, Nat.reduceAdd, ↓reduceIte]
 refine aa_.call (kp_ x.Subs (by omega) _) ?_
 simp (disch := omega) only [ag_, go_sem, Nat.reduceEqDiff, ↓reduceIte]
 exact af_ _ _
theorem sg_ (xs : List ab_) (l : Int) (h0 : 0 ≤ l) (h1 : l ≤ 1048576) (hw : d4_ ab_.wf xs) (h : List Row) : aa_ Tryz.prog 39 [.list 0 3 (xs.map ab_.cells), .val (.int .i64 l)] h (.val (.int .i64 (szR (au_ ab_.sz xs) l))) := by
 obtain ⟨hx, hs⟩ := hw
 refine aj_ mixed Tryz.func39 Dx_ rfl rfl ?_ h
 simp (disch := omega) only [Bj_, c39, ag_, go_sem, Nat.reduceEqDiff, reduceCtorEq, Int.reduceNeg, ↓reduceIte, aq_]
 refine ⟨fun hn => ?_, fun hn => ?_⟩
 ·rw [cb_ (by simp only [au_]; omega)]; exact af_ _ _
 ·refine aM_ (fun n t h => ∃ (k : Nat) (m : Int), t 0 = .list 0 3 (xs.map ab_.cells) ∧ t 5 = .val (.int .i64 k) ∧ t 1 = .val (.int .i64 m) ∧ h = [] ∧ n = xs.length - k ∧ k ≤ xs.length ∧ 0 ≤ m ∧ m ≤ 1048576 ∧ szR (au_ ab_.sz xs) l = szR (b8_ ab_.sz (xs.drop k)) m) xs.length ?_ ?_
  ·exact ⟨0, l - xs.length, rfl, rfl, rfl, rfl, rfl, Nat.zero_le _, by omega, by omega, hH_ (by omega)⟩
  ·rintro J hJ n t h ⟨k, m, t0, t5, t1, rfl, rfl, hk, hm0, hm1, hS⟩
   by_cases hlt : k < xs.length
   ·have hd := jq_ ab_.sz xs k hlt
    have hwk := hs _ (List.getElem_mem hlt)
    rw [hd] at hS
    simp (disch := omega) only [t0, t5, t1, hlt, ab_.cells, ag_, go_sem, Nat.reduceEqDiff, Nat.reduceAdd, reduceCtorEq, Int.reduceNeg, ↓reduceIte]
    refine aa_.call (te_ xs[k] m hm0 hm1 hwk []) ?_
    by_cases hc : (ab_.sz xs[k] : Int) ≤ m
    ·rw [c7_ (n := ab_.sz xs[k]) (l := m) hc]
     simp (disch := omega) only [t5, ag_, go_sem, Nat.reduceEqDiff, Int.reduceNeg, ↓reduceIte, aq_]
     refine ⟨fun hn2 => absurd hn2 (by omega), fun _ => ?_⟩
     exact ⟨xs.length - (k + 1), by omega, hJ _ _ _ ⟨k + 1, m - ab_.sz xs[k], by simp [upd, t0], by simp [upd], by simp [upd], rfl, rfl, by omega, by omega, by omega, by rw [hS, hH_ (by omega)]⟩⟩
    ·rw [cb_ (n := ab_.sz xs[k]) (l := m) (by omega)]
     simp (disch := omega) only [t5, ag_, go_sem, Nat.reduceEqDiff, Int.reduceNeg, ↓reduceIte, aq_]
     rw [hS, cb_ (by omega)]; exact af_ _ _
   ·simp (disch := omega) only [t0, t5, t1, hlt, ag_, go_sem, Nat.reduceEqDiff, reduceCtorEq, Int.reduceNeg, ↓reduceIte]
    rw [hS, List.drop_eq_nil_of_le (by omega), c7_ (by simp only [b8_]; omega)]
    simp only [b8_, Int.natCast_zero, Int.sub_zero]
    exact af_ _ _
theorem rv_ (xs : List ab_) (hb : (au_ ab_.sz) xs ≤ 1048576) (h : List Row) : aa_ Tryz.prog 45 [.list 0 3 (xs.map ab_.cells)] h (.list 0 3 (xs.map ab_.cells)) := by
 have hx := Nat.le_trans (cw_ (f := ab_.sz) (xs := xs)) hb
 refine aj_ mixed Tryz.func45 w1_ rfl rfl ?_ h
 simp (disch := omega) only [uZ_, c45, go_sem, reduceCtorEq, ↓reduceIte]
 refine ⟨by omega, by omega, ?_⟩
 refine aM_ (fun n t h => ∃ k : Nat, t 0 = .list 0 3 (xs.map ab_.cells) ∧ t 3 = .own 0 xs.length ∧ t 4 = .val (.int .i64 k) ∧ h = [⟨112, 3, bT_ (xs.map ab_.cells) [.val (.string ⟨#[]⟩), .val (.slice none 0 0), .val (.string ⟨#[]⟩)] k⟩] ∧ n = xs.length - k ∧ k ≤ xs.length) xs.length ?_ ?_
 ·exact ⟨0, rfl, rfl, rfl, by rw [gR_]; simp, rfl, Nat.zero_le _⟩
 ·rintro J hJ n t h ⟨k, t0, t3, t4, rfl, rfl, hk⟩
  have fl : (bT_ (xs.map ab_.cells) [.val (.string ⟨#[]⟩), .val (.slice none 0 0), .val (.string ⟨#[]⟩)] k).length = xs.length := by rw [fN_ _ _ (by simpa using hk)]; simp
  by_cases hlt : k < xs.length
  ·have fg : (bT_ (xs.map ab_.cells) [.val (.string ⟨#[]⟩), .val (.slice none 0 0), .val (.string ⟨#[]⟩)] k)[k]? = some [.val (.string ⟨#[]⟩), .val (.slice none 0 0), .val (.string ⟨#[]⟩)] := hz_ _ _ (by simpa using hlt)
   have fs := gV_ (xs.map ab_.cells) [.val (.string ⟨#[]⟩), .val (.slice none 0 0), .val (.string ⟨#[]⟩)] (ab_.cells xs[k]) (k := k) (by rw [List.getElem?_map, List.getElem?_eq_getElem hlt]; rfl)
   simp only [ab_.cells] at fs
   simp (disch := omega) only [t0, t3, t4, hlt, ab_.cells, ag_, go_sem, Nat.reduceEqDiff, Nat.reduceAdd, reduceCtorEq, ↓reduceIte]
   refine aa_.call (tz_ xs[k] (by have := cd_ (f := ab_.sz) (List.getElem_mem hlt); omega) _) ?_
   simp (disch := omega) only [t4, hlt, fl, fg, fs, ab_.cells, go_sem, Nat.reduceEqDiff, Nat.reduceAdd, ↓reduceIte, aq_]
   exact ⟨xs.length - (k + 1), by omega, hJ _ _ _ ⟨k + 1, by simp [upd, t0], by simp [upd, t3], by simp [upd], rfl, rfl, by omega⟩⟩
  ·simp (disch := omega) only [t0, t3, t4, hlt, ag_, go_sem, Nat.reduceEqDiff, reduceCtorEq, ↓reduceIte]
   have ff : bT_ (xs.map ab_.cells) [.val (.string ⟨#[]⟩), .val (.slice none 0 0), .val (.string ⟨#[]⟩)] k = xs.map ab_.cells := hv_ _ _ (by simp; omega)
   rw [ff]
   exact iR_ (r := ⟨112, 3, xs.map ab_.cells⟩) rfl (by simp) (by intro e he; obtain ⟨x, _, q⟩ := List.mem_map.1 he; subst q; rfl)
theorem rK_ (xs : List ab_) (hb : (au_ ab_.sz) xs ≤ 1048576) (h : List Row) : aa_ Tryz.prog 51 [.list 0 3 (xs.map ab_.cells), .list 0 3 (xs.map ab_.cells)] h (.val (.bool true)) := by
 have hx := Nat.le_trans (cw_ (f := ab_.sz) (xs := xs)) hb
 refine aj_ mixed Tryz.func51 DE_ rfl rfl ?_ h
 simp (disch := omega) only [zr_, c51, ag_, go_sem, Nat.reduceEqDiff, reduceCtorEq, ↓reduceIte]
 refine aM_ (fun n t h => ∃ k : Nat, t 0 = .list 0 3 (xs.map ab_.cells) ∧ t 1 = .list 0 3 (xs.map ab_.cells) ∧ t 5 = .val (.int .i64 k) ∧ h = [] ∧ n = xs.length - k ∧ k ≤ xs.length) xs.length ?_ ?_
 ·exact ⟨0, rfl, rfl, rfl, rfl, rfl, Nat.zero_le _⟩
 ·rintro J hJ n t h ⟨k, t0, t1, t5, rfl, rfl, hk⟩
  by_cases hlt : k < xs.length
  ·simp (disch := omega) only [t0, t1, t5, hlt, ab_.cells, ag_, go_sem, Nat.reduceEqDiff, Nat.reduceAdd, reduceCtorEq, ↓reduceIte, aq_]
   refine aa_.q (sV_ xs[k] (by have := cd_ (f := ab_.sz) (List.getElem_mem hlt); omega) _) ?_
   simp (disch := omega) only [go_sem]
   exact ⟨xs.length - (k + 1), by omega, hJ _ _ _ ⟨k + 1, by simp [upd, t0], by simp [upd, t1], by simp [upd], rfl, rfl, by omega⟩⟩
  ·simp (disch := omega) only [t0, t1, t5, hlt, ag_, go_sem, Nat.reduceEqDiff, reduceCtorEq, ↓reduceIte, aq_]
   exact af_ _ _
theorem qW_ (xs : List ah_) (l : Int) (h0 : 0 ≤ l) (h1 : l ≤ 1048576) (hw : d4_ ah_.wf xs) (h : List Row) : aa_ Tryz.prog 25 [.list 0 6 (xs.map ah_.cells), .val (.int .i64 l)] h (.val (.int .i64 (szR (au_ ah_.sz xs) l))) := by
 obtain ⟨hx, hs⟩ := hw
 refine aj_ mixed Tryz.func25 DA_ rfl rfl ?_ h
 simp (disch := omega) only [AX_, c25, ag_, go_sem, Nat.reduceEqDiff, reduceCtorEq, Int.reduceNeg, ↓reduceIte, aq_]
 refine ⟨fun hn => ?_, fun hn => ?_⟩
 ·rw [cb_ (by simp only [au_]; omega)]; exact af_ _ _
 ·refine aM_ (fun n t h => ∃ (k : Nat) (m : Int), t 0 = .list 0 6 (xs.map ah_.cells) ∧ t 5 = .val (.int .i64 k) ∧ t 1 = .val (.int .i64 m) ∧ h = [] ∧ n = xs.length - k ∧ k ≤ xs.length ∧ 0 ≤ m ∧ m ≤ 1048576 ∧ szR (au_ ah_.sz xs) l = szR (b8_ ah_.sz (xs.drop k)) m) xs.length ?_ ?_
  ·exact ⟨0, l - xs.length, rfl, rfl, rfl, rfl, rfl, Nat.zero_le _, by omega, by omega, hH_ (by omega)⟩
  ·rintro J hJ n t h ⟨k, m, t0, t5, t1, rfl, rfl, hk, hm0, hm1, hS⟩
   by_cases hlt : k < xs.length
   ·have hd := jq_ ah_.sz xs k hlt
    have hwk := hs _ (List.getElem_mem hlt)
    rw [hd] at hS
    simp (disch := omega) only [t0, t5, t1, hlt, ah_.cells, ag_, go_sem, Nat.reduceEqDiff, Nat.reduceAdd, reduceCtorEq, Int.reduceNeg, ↓reduceIte]
    refine aa_.call (rZ_ xs[k] m hm0 hm1 hwk []) ?_
    by_cases hc : (ah_.sz xs[k] : Int) ≤ m
    ·rw [c7_ (n := ah_.sz xs[k]) (l := m) hc]
     simp (disch := omega) only [t5, ag_, go_sem, Nat.reduceEqDiff, Int.reduceNeg, ↓reduceIte, aq_]
     refine ⟨fun hn2 => absurd hn2 (by omega), fun _ => ?_⟩
     exact ⟨xs.length - (k + 1), by omega, hJ _ _ _ ⟨k + 1, m - ah_.sz xs[k], by simp [upd, t0], by simp [upd], by simp [upd], rfl, rfl, by omega, by omega, by omega, by rw [hS, hH_ (by omega)]⟩⟩
    ·rw [cb_ (n := ah_.sz xs[k]) (l := m) (by omega)]
     simp (disch := omega) only [t5, ag_, go_sem, Nat.reduceEqDiff, Int.reduceNeg, ↓reduceIte, aq_]
     rw [hS, cb_ (by omega)]; exact af_ _ _
   ·simp (disch := omega) only [t0, t5, t1, hlt, ag_, go_sem, Nat.reduceEqDiff, reduceCtorEq, Int.reduceNeg, ↓reduceIte]
    rw [hS, List.drop_eq_nil_of_le (by omega), c7_ (by simp only [b8_]; omega)]
    simp only [b8_, Int.natCast_zero, Int.sub_zero]
    exact af_ _ _
theorem eQ_ (xs : List ah_) (hb : (au_ ah_.sz) xs ≤ 1048576) (h : List Row) : aa_ Tryz.prog 27 [.list 0 6 (xs.map ah_.cells)] h (.list 0 6 (xs.map ah_.cells)) := by
 have hx := Nat.le_trans (cw_ (f := ah_.sz) (xs := xs)) hb
 refine aj_ mixed Tryz.func27 v1_ rfl rfl ?_ h
 simp (disch := omega) only [uv_, c27, go_sem, reduceCtorEq, ↓reduceIte]
 refine ⟨by omega, by omega, ?_⟩
 refine aM_ (fun n t h => ∃ k : Nat, t 0 = .list 0 6 (xs.map ah_.cells) ∧ t 3 = .own 0 xs.length ∧ t 4 = .val (.int .i64 k) ∧ h = [⟨101, 6, bT_ (xs.map ah_.cells) [.val (.int .i64 0), .val (.int .i64 0), .val (.string ⟨#[]⟩), .val (.slice none 0 0), .val (.string ⟨#[]⟩), .val (.int .i64 0)] k⟩] ∧ n = xs.length - k ∧ k ≤ xs.length) xs.length ?_ ?_
 ·exact ⟨0, rfl, rfl, rfl, by rw [gR_]; simp, rfl, Nat.zero_le _⟩
 ·rintro J hJ n t h ⟨k, t0, t3, t4, rfl, rfl, hk⟩
  have fl : (bT_ (xs.map ah_.cells) [.val (.int .i64 0), .val (.int .i64 0), .val (.string ⟨#[]⟩), .val (.slice none 0 0), .val (.string ⟨#[]⟩), .val (.int .i64 0)] k).length = xs.length := by rw [fN_ _ _ (by simpa using hk)]; simp
  by_cases hlt : k < xs.length
  ·have fg : (bT_ (xs.map ah_.cells) [.val (.int .i64 0), .val (.int .i64 0), .val (.string ⟨#[]⟩), .val (.slice none 0 0), .val (.string ⟨#[]⟩), .val (.int .i64 0)] k)[k]? = some [.val (.int .i64 0), .val (.int .i64 0), .val (.string ⟨#[]⟩), .val (.slice none 0 0), .val (.string ⟨#[]⟩), .val (.int .i64 0)] := hz_ _ _ (by simpa using hlt)
   have fs := gV_ (xs.map ah_.cells) [.val (.int .i64 0), .val (.int .i64 0), .val (.string ⟨#[]⟩), .val (.slice none 0 0), .val (.string ⟨#[]⟩), .val (.int .i64 0)] (ah_.cells xs[k]) (k := k) (by rw [List.getElem?_map, List.getElem?_eq_getElem hlt]; rfl)
   simp only [ah_.cells] at fs
   simp (disch := omega) only [t0, t3, t4, hlt, ah_.cells, ag_, go_sem, Nat.reduceEqDiff, Nat.reduceAdd, reduceCtorEq, ↓reduceIte]
   refine aa_.call (sP_ xs[k] (by have := cd_ (f := ah_.sz) (List.getElem_mem hlt); omega) _) ?_
   simp (disch := omega) only [t4, hlt, fl, fg, fs, ah_.cells, go_sem, Nat.reduceEqDiff, Nat.reduceAdd, ↓reduceIte, aq_]
   exact ⟨xs.length - (k + 1), by omega, hJ _ _ _ ⟨k + 1, by simp [upd, t0], by simp [upd, t3], by simp [upd], rfl, rfl, by omega⟩⟩
  ·simp (disch := omega) only [t0, t3, t4, hlt, ag_, go_sem, Nat.reduceEqDiff, reduceCtorEq, ↓reduceIte]
   have ff : bT_ (xs.map ah_.cells) [.val (.int .i64 0), .val (.int .i64 0), .val (.string ⟨#[]⟩), .val (.slice none 0 0), .val (.string ⟨#[]⟩), .val (.int .i64 0)] k = xs.map ah_.cells := hv_ _ _ (by simp; omega)
   rw [ff]
   exact iR_ (r := ⟨101, 6, xs.map ah_.cells⟩) rfl (by simp) (by intro e he; obtain ⟨x, _, q⟩ := List.mem_map.1 he; subst q; rfl)
theorem lA_ (xs : List ah_) (hb : (au_ ah_.sz) xs ≤ 1048576) (h : List Row) : aa_ Tryz.prog 29 [.list 0 6 (xs.map ah_.cells), .list 0 6 (xs.map ah_.cells)] h (.val (.bool true)) := by
 have hx := Nat.le_trans (cw_ (f := ah_.sz) (xs := xs)) hb
 refine aj_ mixed Tryz.func29 Du_ rfl rfl ?_ h
 simp (disch := omega) only [AU_, c29, ag_, go_sem, Nat.reduceEqDiff, reduceCtorEq, ↓reduceIte]
 refine aM_ (fun n t h => ∃ k : Nat, t 0 = .list 0 6 (xs.map ah_.cells) ∧ t 1 = .list 0 6 (xs.map ah_.cells) ∧ t 5 = .val (.int .i64 k) ∧ h = [] ∧ n = xs.length - k ∧ k ≤ xs.length) xs.length ?_ ?_
 ·exact ⟨0, rfl, rfl, rfl, rfl, rfl, Nat.zero_le _⟩
 ·rintro J hJ n t h ⟨k, t0, t1, t5, rfl, rfl, hk⟩
  by_cases hlt : k < xs.length
  ·simp (disch := omega) only [t0, t1, t5, hlt, ah_.cells, ag_, go_sem, Nat.reduceEqDiff, Nat.reduceAdd, reduceCtorEq, ↓reduceIte, aq_]
   refine aa_.q (sv_ xs[k] (by have := cd_ (f := ah_.sz) (List.getElem_mem hlt); omega) _) ?_
   simp (disch := omega) only [go_sem]
   exact ⟨xs.length - (k + 1), by omega, hJ _ _ _ ⟨k + 1, by simp [upd, t0], by simp [upd, t1], by simp [upd], rfl, rfl, by omega⟩⟩
  ·simp (disch := omega) only [t0, t1, t5, hlt, ag_, go_sem, Nat.reduceEqDiff, reduceCtorEq, ↓reduceIte, aq_]
   exact af_ _ _
theorem tP_ (x : ad_) (l : Int) (h0 : 0 ≤ l) (h1 : l ≤ 1048576) (hw : ad_.wf x) (h : List Row) : aa_ Tryz.prog 8 [.agg (ad_.cells x), .val (.int .i64 l)] h (.val (.int .i64 (szR (ad_.sz x) l))) := by
 obtain ⟨w_Nodes, _⟩ := hw
 have hsz : ad_.sz x = (au_ ab_.sz) x.Nodes := rfl
 refine aj_ mixed Tryz.func8 Ee_ rfl rfl ?_ h
 simp (disch := omega) only [lf8, c8, ad_.cells, go_sem, Nat.reduceEqDiff, Int.reduceNeg, ↓reduceIte]
 refine aa_.call (sg_ x.Nodes (l) (by omega) (by omega) w_Nodes _) ?_
 by_cases hn_Nodes : ((au_ ab_.sz) x.Nodes : Int) ≤ l
 case neg =>
  rw [cb_ (n := (au_ ab_.sz) x.Nodes) (l := l) (by omega)]
  simp (disch := omega) only [ag_, go_sem, Nat.reduceEqDiff, Int.reduceNeg, ↓reduceIte]
  rw [cb_ (by omega)]; exact af_ _ _
 rw [c7_ (n := (au_ ab_.sz) x.Nodes) (l := l) hn_Nodes]
 simp (disch := omega) only [ag_, go_sem, Nat.reduceEqDiff, Int.reduceNeg, ↓reduceIte]
 refine ⟨fun hn => absurd hn (by omega), fun _ => ?_⟩
 rw [c7_ (by omega), hsz]
 have hfin : l - (((au_ ab_.sz) x.Nodes : Nat) : Int) = l - (au_ ab_.sz) x.Nodes := by omega
 rw [hfin]; exact af_ _ _
theorem f3_ (x : ad_) (hb : ad_.sz x ≤ 1048576) (h : List Row) : aa_ Tryz.prog 11 [.agg (ad_.cells x)] h (.agg (ad_.cells x)) := by
 have hsz : ad_.sz x = (au_ ab_.sz) x.Nodes := rfl
 refine aj_ mixed Tryz.func11 xF_ rfl rfl ?_ h
 simp (disch := omega) only [vh_, c11, ad_.cells, go_sem, Nat.reduceEqDiff, Nat.reduceAdd, ↓reduceIte]
 refine aa_.call (rv_ x.Nodes (by omega) _) ?_
 simp (disch := omega) only [go_sem, Nat.reduceEqDiff, ↓reduceIte, cA_]
 exact gQ_ _ _ rfl
theorem f1_ (x : ad_) (hb : ad_.sz x ≤ 1048576) (h : List Row) : aa_ Tryz.prog 14 [.agg (ad_.cells x), .agg (ad_.cells x)] h (.val (.bool true)) := by
 have hsz : ad_.sz x = (au_ ab_.sz) x.Nodes := rfl
 refine aj_ mixed Tryz.func14 Dq_ rfl rfl ?_ h
 simp (disch := omega) only [zx_, c14, ad_.cells, go_sem, Nat.reduceEqDiff, ↓reduceIte]
 refine aa_.call (rK_ x.Nodes (by omega) _) ?_
 simp (disch := omega) only [ag_, go_sem, ↓reduceIte]
 exact af_ _ _
end Go.Proofs.YtfplhbjggecnpaaGreatDoor
