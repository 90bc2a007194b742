/-
 Contracts of functions of this program, over abstract values. Conditions: as each theorem says.
-/
import Derived.Test.YtfplhbjggecnpaaGreatDoorBase
namespace Go.Proofs.YtfplhbjggecnpaaGreatDoor
open List
open Go.AW
set_option linter.unusedVariables false
set_option linter.unusedSimpArgs false
def c77 : LC :=
 .seq (.ops [.ki 4 0]) (.seq (.ops [.m 6 1, .m 7 0, .ll 8 7, .bb 9 .sub false 6 8, .m 1 9]) (.seq (.seq (.ops [.m 10 1, .bk 11 .lss false 10 0]) (.cond (.tmp 11) (.seq (.ops [.s 4 (.mov (.const (.int .i64 (-1))))]) .ret)
 .skip)) (.seq (.seq (.ops [.ki 5 0]) (.block 0 (.loop (.seq (.seq (.ops [.m 12 5, .m 13 0, .ll 14 13, .bb 15 .lss false 12 14]) (.cond (.tmp 15) .skip (.exit 0))) (.seq (.block 1 (.seq (.ops [.m 18 1, .m 19 0, .m 20 5,
 .ia 21 1 19 20, .ln 22 21, .s 23 (.lenStr (.tmp 22)), .bb 24 .sub false 18 23, .m 1 24]) (.seq (.ops [.m 25 1, .bk 26 .lss false 25 0]) (.cond (.tmp 26) (.seq (.ops [.s 4 (.mov (.const (.int .i64 (-1))))]) .ret)
 .skip)))) (.ops [.m 16 5, .bk 17 .add false 16 1, .m 5 17])))))) (.seq (.ops [.m 27 1, .m 4 27]) .ret))))
def zk_ : LF := ⟨2, 28, c77, [.tmp 4]⟩
theorem D4_ : at_ Tryz.prog Tryz.f77 zk_ := ai_
def c87 : LC :=
 .seq (.ops [.s 2 (.mov (.const (.slice none 0 0)))]) (.seq (.ops [.m 5 0, .ll 6 5, .s 7 (.mkSlice 9 1 16 (.string ⟨#[]⟩) (.tmp 6) (.tmp 6)), .m 3 7]) (.seq (.seq (.ops [.ki 4 0]) (.block 0 (.loop (.seq (.seq (.ops [.m 8
 4, .m 9 0, .ll 10 9, .bb 11 .lss false 8 10]) (.cond (.tmp 11) .skip (.exit 0))) (.seq (.block 1 (.ops [.m 14 3, .m 15 4, .m 16 0, .m 17 4, .ia 18 1 16 17, .ln 19 18, .ia 20 1 14 15, .st 1 20 19])) (.ops [.m 12 4, .bk 13
 .add false 12 1, .m 4 13])))))) (.seq (.ops [.m 21 3, .m 2 21]) .ret)))
def vD_ : LF := ⟨1, 22, c87, [.tmp 2]⟩
theorem xg_ : at_ Tryz.prog Tryz.f87 vD_ := ai_
def zb_ : LC :=
 .seq (.ops [.s 4 (.mov (.const (.bool false)))]) (.seq (.seq (.ops [.m 6 0, .ll 7 6, .m 8 1, .ll 9 8, .bb 10 .neq false 7 9]) (.cond (.tmp 10) (.seq (.ops [.s 4 (.mov (.const (.bool false)))]) .ret) .skip)) (.seq (.seq
 (.ops [.ki 5 0]) (.block 0 (.loop (.seq (.seq (.ops [.m 11 5, .m 12 0, .ll 13 12, .bb 14 .lss false 11 13]) (.cond (.tmp 14) .skip (.exit 0))) (.seq (.block 1 (.seq (.dops [.m 17 0, .m 18 5, .ia 19 1 17 18, .ln 20 19, .m
 21 1, .m 22 5, .ia 23 1 21 22, .ln 24 23, .bb 25 .neq false 20 24]) (.cond (.tmp 25) (.seq (.ops [.s 4 (.mov (.const (.bool false)))]) .ret) .skip))) (.ops [.m 15 5, .bk 16 .add false 15 1, .m 5 16])))))) (.seq (.ops [.s
 4 (.mov (.const (.bool true)))]) .ret)))
def xD_ : LF := ⟨2, 26, zb_, [.tmp 4]⟩
theorem z0_ : at_ Tryz.prog Tryz.f100 xD_ := ai_
def c40 : LC :=
 .seq (.ops [.s 2 (.box 74 (.tmp 0)), .ki 4 0]) (.seq (.ops [.m 5 1, .fa 6 1 2, .ln 7 6, .s 8 (.lenStr (.tmp 7)), .bb 9 .sub false 5 8, .m 1 9]) (.seq (.seq (.ops [.m 10 1, .bk 11 .lss false 10 0]) (.cond (.tmp 11) (.seq
 (.ops [.s 4 (.mov (.const (.int .i64 (-1))))]) .ret) .skip)) (.seq (.ops [.fa 12 2 2, .ln 13 12, .m 14 1, .c2 15 77 13 14, .m 1 15]) (.seq (.seq (.ops [.m 16 1, .bk 17 .lss false 16 0]) (.cond (.tmp 17) (.seq (.ops [.s 4
 (.mov (.const (.int .i64 (-1))))]) .ret) .skip)) (.seq (.ops [.m 18 1, .fa 19 3 2, .ln 20 19, .s 21 (.lenStr (.tmp 20)), .bb 22 .sub false 18 21, .m 1 22]) (.seq (.seq (.ops [.m 23 1, .bk 24 .lss false 23 0]) (.cond
 (.tmp 24) (.seq (.ops [.s 4 (.mov (.const (.int .i64 (-1))))]) .ret) .skip)) (.seq (.ops [.m 25 1, .m 4 25]) .ret)))))))
def Cs_ : LF := ⟨2, 26, c40, [.tmp 4]⟩
theorem DR_ : at_ Tryz.prog Tryz.f40 Cs_ := ai_
def c46 : LC :=
 .seq (.ops [.s 1 (.box 74 (.tmp 0)), .s 2 (.alloc 79 (.agg #[.int .i64 0, .string ⟨#[]⟩, .slice none 0 0, .string ⟨#[]⟩, .int .i64 0]))]) (.seq (.ops [.s 3 (.alloc 79 (.agg #[.int .i64 0, .string ⟨#[]⟩, .slice none 0 0,
 .string ⟨#[]⟩, .int .i64 0]))]) (.seq (.ops [.fa 4 0 1, .ln 5 4, .fa 6 0 3, .st 1 6 5]) (.seq (.ops [.fa 7 1 1, .ln 8 7, .fa 9 1 3, .st 1 9 8]) (.seq (.ops [.fa 10 2 1, .ln 11 10, .c1 12 87 11, .fa 13 2 3, .st 1 13 12])
 (.seq (.ops [.fa 14 3 1, .ln 15 14, .fa 16 3 3, .st 1 16 15]) (.seq (.ops [.fa 17 4 1, .ln 18 17, .fa 19 4 3, .st 1 19 18]) (.seq (.ops [.ld 20 5 3, .st 5 2 20]) .ret)))))))
def v6_ : LF := ⟨1, 21, c46, [.cell 2 (some 5)]⟩
theorem xN_ : at_ Tryz.prog Tryz.f46 v6_ := ai_
def c52 : LC :=
 .seq (.ops [.s 2 (.box 79 (.tmp 0)), .s 3 (.box 79 (.tmp 1)), .s 4 (.mov (.const (.bool false)))]) (.seq (.seq (.ops [.fa 5 0 2, .ln 6 5, .fa 7 0 3, .ln 8 7, .bb 9 .neq false 6 8]) (.cond (.tmp 9) (.seq (.ops [.s 4 (.mov
 (.const (.bool false)))]) .ret) .skip)) (.seq (.seq (.ops [.fa 10 1 2, .ln 11 10, .fa 12 1 3, .ln 13 12, .bb 14 .neq false 11 13]) (.cond (.tmp 14) (.seq (.ops [.s 4 (.mov (.const (.bool false)))]) .ret) .skip)) (.seq
 (.seq (.ops [.fa 15 2 2, .ln 16 15, .fa 17 2 3, .ln 18 17, .c2 19 100 16 18, .nt 20 19]) (.cond (.tmp 20) (.seq (.ops [.s 4 (.mov (.const (.bool false)))]) .ret) .skip)) (.seq (.seq (.ops [.fa 21 3 2, .ln 22 21, .fa 23 3
 3, .ln 24 23, .bb 25 .neq false 22 24]) (.cond (.tmp 25) (.seq (.ops [.s 4 (.mov (.const (.bool false)))]) .ret) .skip)) (.seq (.seq (.ops [.fa 26 4 2, .ln 27 26, .fa 28 4 3, .ln 29 28, .bb 30 .neq false 27 29]) (.cond
 (.tmp 30) (.seq (.ops [.s 4 (.mov (.const (.bool false)))]) .ret) .skip)) (.seq (.ops [.s 4 (.mov (.const (.bool true)))]) .ret))))))
def y6_ : LF := ⟨2, 31, c52, [.tmp 4]⟩
theorem Es_ : at_ Tryz.prog Tryz.f52 y6_ := ai_
def c9 : LC :=
 .seq (.ops [.ki 4 0]) (.seq (.ops [.m 6 1, .m 7 0, .ll 8 7, .bb 9 .sub false 6 8, .m 1 9]) (.seq (.seq (.ops [.m 10 1, .bk 11 .lss false 10 0]) (.cond (.tmp 11) (.seq (.ops [.s 4 (.mov (.const (.int .i64 (-1))))]) .ret)
 .skip)) (.seq (.seq (.ops [.ki 5 0]) (.block 0 (.loop (.seq (.seq (.ops [.m 12 5, .m 13 0, .ll 14 13, .bb 15 .lss false 12 14]) (.cond (.tmp 15) .skip (.exit 0))) (.seq (.block 1 (.seq (.ops [.m 18 0, .m 19 5, .ia 20 5
 18 19, .ld 21 5 20, .m 22 1, .c2 23 40 21 22, .m 1 23]) (.seq (.ops [.m 24 1, .bk 25 .lss false 24 0]) (.cond (.tmp 25) (.seq (.ops [.s 4 (.mov (.const (.int .i64 (-1))))]) .ret) .skip)))) (.ops [.m 16 5, .bk 17 .add
 false 16 1, .m 5 17])))))) (.seq (.ops [.m 26 1, .m 4 26]) .ret))))
def lf9 : LF := ⟨2, 27, c9, [.tmp 4]⟩
theorem ED_ : at_ Tryz.prog Tryz.f9 lf9 := ai_
def c12 : LC :=
 .seq (.ops [.s 2 (.mov (.const (.slice none 0 0)))]) (.seq (.ops [.m 5 0, .ll 6 5, .s 7 (.mkSlice 79 5 72 (.agg #[.int .i64 0, .string ⟨#[]⟩, .slice none 0 0, .string ⟨#[]⟩, .int .i64 0]) (.tmp 6) (.tmp 6)), .m 3 7])
 (.seq (.seq (.ops [.ki 4 0]) (.block 0 (.loop (.seq (.seq (.ops [.m 8 4, .m 9 0, .ll 10 9, .bb 11 .lss false 8 10]) (.cond (.tmp 11) .skip (.exit 0))) (.seq (.block 1 (.ops [.m 14 3, .m 15 4, .m 16 0, .m 17 4, .ia 18 5
 16 17, .ld 19 5 18, .c1 20 46 19, .ia 21 5 14 15, .st 5 21 20])) (.ops [.m 12 4, .bk 13 .add false 12 1, .m 4 13])))))) (.seq (.ops [.m 22 3, .m 2 22]) .ret)))
def uJ_ : LF := ⟨1, 23, c12, [.tmp 2]⟩
theorem xR_ : at_ Tryz.prog Tryz.f12 uJ_ := ai_
def c15 : LC :=
 .seq (.ops [.s 4 (.mov (.const (.bool false)))]) (.seq (.seq (.ops [.m 6 0, .ll 7 6, .m 8 1, .ll 9 8, .bb 10 .neq false 7 9]) (.cond (.tmp 10) (.seq (.ops [.s 4 (.mov (.const (.bool false)))]) .ret) .skip)) (.seq (.seq
 (.ops [.ki 5 0]) (.block 0 (.loop (.seq (.seq (.ops [.m 11 5, .m 12 0, .ll 13 12, .bb 14 .lss false 11 13]) (.cond (.tmp 14) .skip (.exit 0))) (.seq (.block 1 (.seq (.dops [.m 17 0, .m 18 5, .ia 19 5 17 18, .ld 20 5 19,
 .m 21 1, .m 22 5, .ia 23 5 21 22, .ld 24 5 23, .c2 25 52 20 24, .nt 26 25]) (.cond (.tmp 26) (.seq (.ops [.s 4 (.mov (.const (.bool false)))]) .ret) .skip))) (.ops [.m 15 5, .bk 16 .add false 15 1, .m 5 16])))))) (.seq
 (.ops [.s 4 (.mov (.const (.bool true)))]) .ret)))
def A0_ : LF := ⟨2, 27, c15, [.tmp 4]⟩
theorem D5_ : at_ Tryz.prog Tryz.f15 A0_ := ai_
def c76 : LC :=
 .seq (.ops [.s 2 (.box 111 (.tmp 0)), .ki 4 0]) (.seq (.ops [.m 5 1, .fa 6 0 2, .ln 7 6, .s 8 (.lenStr (.tmp 7)), .bb 9 .sub false 5 8, .m 1 9]) (.seq (.seq (.ops [.m 10 1, .bk 11 .lss false 10 0]) (.cond (.tmp 11) (.seq
 (.ops [.s 4 (.mov (.const (.int .i64 (-1))))]) .ret) .skip)) (.seq (.ops [.fa 12 1 2, .ln 13 12, .m 14 1, .c2 15 77 13 14, .m 1 15]) (.seq (.seq (.ops [.m 16 1, .bk 17 .lss false 16 0]) (.cond (.tmp 17) (.seq (.ops [.s 4
 (.mov (.const (.int .i64 (-1))))]) .ret) .skip)) (.seq (.ops [.m 18 1, .fa 19 2 2, .ln 20 19, .s 21 (.lenStr (.tmp 20)), .bb 22 .sub false 18 21, .m 1 22]) (.seq (.seq (.ops [.m 23 1, .bk 24 .lss false 23 0]) (.cond
 (.tmp 24) (.seq (.ops [.s 4 (.mov (.const (.int .i64 (-1))))]) .ret) .skip)) (.seq (.ops [.m 25 1, .m 4 25]) .ret)))))))
def Ak_ : LF := ⟨2, 26, c76, [.tmp 4]⟩
theorem DS_ : at_ Tryz.prog Tryz.f76 Ak_ := ai_
def c86 : LC :=
 .seq (.ops [.s 1 (.box 111 (.tmp 0)), .s 2 (.alloc 112 (.agg #[.string ⟨#[]⟩, .slice none 0 0, .string ⟨#[]⟩]))]) (.seq (.ops [.s 3 (.alloc 112 (.agg #[.string ⟨#[]⟩, .slice none 0 0, .string ⟨#[]⟩]))]) (.seq (.ops [.fa
 4 0 1, .ln 5 4, .fa 6 0 3, .st 1 6 5]) (.seq (.ops [.fa 7 1 1, .ln 8 7, .c1 9 87 8, .fa 10 1 3, .st 1 10 9]) (.seq (.ops [.fa 11 2 1, .ln 12 11, .fa 13 2 3, .st 1 13 12]) (.seq (.ops [.ld 14 3 3, .st 3 2 14]) .ret)))))
def up_ : LF := ⟨1, 15, c86, [.cell 2 (some 3)]⟩
theorem xA_ : at_ Tryz.prog Tryz.f86 up_ := ai_
def c99 : LC :=
 .seq (.ops [.s 2 (.box 112 (.tmp 0)), .s 3 (.box 112 (.tmp 1)), .s 4 (.mov (.const (.bool false)))]) (.seq (.seq (.ops [.fa 5 0 2, .ln 6 5, .fa 7 0 3, .ln 8 7, .bb 9 .neq false 6 8]) (.cond (.tmp 9) (.seq (.ops [.s 4
 (.mov (.const (.bool false)))]) .ret) .skip)) (.seq (.seq (.ops [.fa 10 1 2, .ln 11 10, .fa 12 1 3, .ln 13 12, .c2 14 100 11 13, .nt 15 14]) (.cond (.tmp 15) (.seq (.ops [.s 4 (.mov (.const (.bool false)))]) .ret)
 .skip)) (.seq (.seq (.ops [.fa 16 2 2, .ln 17 16, .fa 18 2 3, .ln 19 18, .bb 20 .neq false 17 19]) (.cond (.tmp 20) (.seq (.ops [.s 4 (.mov (.const (.bool false)))]) .ret) .skip)) (.seq (.ops [.s 4 (.mov (.const (.bool
 true)))]) .ret))))
def AV_ : LF := ⟨2, 21, c99, [.tmp 4]⟩
theorem Ew_ : at_ Tryz.prog Tryz.f99 AV_ := ai_
def c57 : LC :=
 .seq (.ops [.s 2 (.box 89 (.tmp 0)), .ki 4 0]) (.seq (.ops [.fa 5 1 2, .ln 6 5, .m 7 1, .c2 8 9 6 7, .m 1 8]) (.seq (.seq (.ops [.m 9 1, .bk 10 .lss false 9 0]) (.cond (.tmp 10) (.seq (.ops [.s 4 (.mov (.const (.int .i64
 (-1))))]) .ret) .skip)) (.seq (.ops [.m 11 1, .m 4 11]) .ret)))
def BE_ : LF := ⟨2, 12, c57, [.tmp 4]⟩
theorem Ev_ : at_ Tryz.prog Tryz.f57 BE_ := ai_
def c60 : LC :=
 .seq (.ops [.s 1 (.box 89 (.tmp 0)), .s 2 (.alloc 92 (.agg #[.int .i64 0, .slice none 0 0]))]) (.seq (.ops [.s 3 (.alloc 92 (.agg #[.int .i64 0, .slice none 0 0]))]) (.seq (.ops [.fa 4 0 1, .ln 5 4, .fa 6 0 3, .st 1 6
 5]) (.seq (.ops [.fa 7 1 1, .ln 8 7, .c1 9 12 8, .fa 10 1 3, .st 1 10 9]) (.seq (.ops [.ld 11 2 3, .st 2 2 11]) .ret))))
def uS_ : LF := ⟨1, 12, c60, [.cell 2 (some 2)]⟩
theorem wI_ : at_ Tryz.prog Tryz.f60 uS_ := ai_
def c62 : LC :=
 .seq (.ops [.s 2 (.box 92 (.tmp 0)), .s 3 (.box 92 (.tmp 1)), .s 4 (.mov (.const (.bool false)))]) (.seq (.seq (.ops [.fa 5 0 2, .ln 6 5, .fa 7 0 3, .ln 8 7, .bb 9 .neq false 6 8]) (.cond (.tmp 9) (.seq (.ops [.s 4 (.mov
 (.const (.bool false)))]) .ret) .skip)) (.seq (.seq (.ops [.fa 10 1 2, .ln 11 10, .fa 12 1 3, .ln 13 12, .c2 14 15 11 13, .nt 15 14]) (.cond (.tmp 15) (.seq (.ops [.s 4 (.mov (.const (.bool false)))]) .ret) .skip)) (.seq
 (.ops [.s 4 (.mov (.const (.bool true)))]) .ret)))
def zz_ : LF := ⟨2, 16, c62, [.tmp 4]⟩
theorem DV_ : at_ Tryz.prog Tryz.f62 zz_ := ai_
def c19 : LC :=
 .seq (.ops [.ki 4 0]) (.seq (.ops [.m 6 1, .m 7 0, .ll 8 7, .bb 9 .sub false 6 8, .m 1 9]) (.seq (.seq (.ops [.m 10 1, .bk 11 .lss false 10 0]) (.cond (.tmp 11) (.seq (.ops [.s 4 (.mov (.const (.int .i64 (-1))))]) .ret)
 .skip)) (.seq (.seq (.ops [.ki 5 0]) (.block 0 (.loop (.seq (.seq (.ops [.m 12 5, .m 13 0, .ll 14 13, .bb 15 .lss false 12 14]) (.cond (.tmp 15) .skip (.exit 0))) (.seq (.block 1 (.seq (.ops [.m 18 0, .m 19 5, .ia 20 2
 18 19, .ld 21 2 20, .m 22 1, .c2 23 57 21 22, .m 1 23]) (.seq (.ops [.m 24 1, .bk 25 .lss false 24 0]) (.cond (.tmp 25) (.seq (.ops [.s 4 (.mov (.const (.int .i64 (-1))))]) .ret) .skip)))) (.ops [.m 16 5, .bk 17 .add
 false 16 1, .m 5 17])))))) (.seq (.ops [.m 26 1, .m 4 26]) .ret))))
def z5_ : LF := ⟨2, 27, c19, [.tmp 4]⟩
theorem DN_ : at_ Tryz.prog Tryz.f19 z5_ := ai_
def c21 : LC :=
 .seq (.ops [.s 2 (.mov (.const (.slice none 0 0)))]) (.seq (.ops [.m 5 0, .ll 6 5, .s 7 (.mkSlice 92 2 32 (.agg #[.int .i64 0, .slice none 0 0]) (.tmp 6) (.tmp 6)), .m 3 7]) (.seq (.seq (.ops [.ki 4 0]) (.block 0 (.loop
 (.seq (.seq (.ops [.m 8 4, .m 9 0, .ll 10 9, .bb 11 .lss false 8 10]) (.cond (.tmp 11) .skip (.exit 0))) (.seq (.block 1 (.ops [.m 14 3, .m 15 4, .m 16 0, .m 17 4, .ia 18 2 16 17, .ld 19 2 18, .c1 20 60 19, .ia 21 2 14
 15, .st 2 21 20])) (.ops [.m 12 4, .bk 13 .add false 12 1, .m 4 13])))))) (.seq (.ops [.m 22 3, .m 2 22]) .ret)))
def vt_ : LF := ⟨1, 23, c21, [.tmp 2]⟩
theorem wj_ : at_ Tryz.prog Tryz.f21 vt_ := ai_
def c23 : LC :=
 .seq (.ops [.s 4 (.mov (.const (.bool false)))]) (.seq (.seq (.ops [.m 6 0, .ll 7 6, .m 8 1, .ll 9 8, .bb 10 .neq false 7 9]) (.cond (.tmp 10) (.seq (.ops [.s 4 (.mov (.const (.bool false)))]) .ret) .skip)) (.seq (.seq
 (.ops [.ki 5 0]) (.block 0 (.loop (.seq (.seq (.ops [.m 11 5, .m 12 0, .ll 13 12, .bb 14 .lss false 11 13]) (.cond (.tmp 14) .skip (.exit 0))) (.seq (.block 1 (.seq (.dops [.m 17 0, .m 18 5, .ia 19 2 17 18, .ld 20 2 19,
 .m 21 1, .m 22 5, .ia 23 2 21 22, .ld 24 2 23, .c2 25 62 20 24, .nt 26 25]) (.cond (.tmp 26) (.seq (.ops [.s 4 (.mov (.const (.bool false)))]) .ret) .skip))) (.ops [.m 15 5, .bk 16 .add false 15 1, .m 5 16])))))) (.seq
 (.ops [.s 4 (.mov (.const (.bool true)))]) .ret)))
def A3_ : LF := ⟨2, 27, c23, [.tmp 4]⟩
theorem D9_ : at_ Tryz.prog Tryz.f23 A3_ := ai_
def c39 : LC :=
 .seq (.ops [.ki 4 0]) (.seq (.ops [.m 6 1, .m 7 0, .ll 8 7, .bb 9 .sub false 6 8, .m 1 9]) (.seq (.seq (.ops [.m 10 1, .bk 11 .lss false 10 0]) (.cond (.tmp 11) (.seq (.ops [.s 4 (.mov (.const (.int .i64 (-1))))]) .ret)
 .skip)) (.seq (.seq (.ops [.ki 5 0]) (.block 0 (.loop (.seq (.seq (.ops [.m 12 5, .m 13 0, .ll 14 13, .bb 15 .lss false 12 14]) (.cond (.tmp 15) .skip (.exit 0))) (.seq (.block 1 (.seq (.ops [.m 18 0, .m 19 5, .ia 20 3
 18 19, .ld 21 3 20, .m 22 1, .c2 23 76 21 22, .m 1 23]) (.seq (.ops [.m 24 1, .bk 25 .lss false 24 0]) (.cond (.tmp 25) (.seq (.ops [.s 4 (.mov (.const (.int .i64 (-1))))]) .ret) .skip)))) (.ops [.m 16 5, .bk 17 .add
 false 16 1, .m 5 17])))))) (.seq (.ops [.m 26 1, .m 4 26]) .ret))))
def Bu_ : LF := ⟨2, 27, c39, [.tmp 4]⟩
theorem DB_ : at_ Tryz.prog Tryz.f39 Bu_ := ai_
def c45 : LC :=
 .seq (.ops [.s 2 (.mov (.const (.slice none 0 0)))]) (.seq (.ops [.m 5 0, .ll 6 5, .s 7 (.mkSlice 112 3 56 (.agg #[.string ⟨#[]⟩, .slice none 0 0, .string ⟨#[]⟩]) (.tmp 6) (.tmp 6)), .m 3 7]) (.seq (.seq (.ops [.ki 4 0])
 (.block 0 (.loop (.seq (.seq (.ops [.m 8 4, .m 9 0, .ll 10 9, .bb 11 .lss false 8 10]) (.cond (.tmp 11) .skip (.exit 0))) (.seq (.block 1 (.ops [.m 14 3, .m 15 4, .m 16 0, .m 17 4, .ia 18 3 16 17, .ld 19 3 18, .c1 20 86
 19, .ia 21 3 14 15, .st 3 21 20])) (.ops [.m 12 4, .bk 13 .add false 12 1, .m 4 13])))))) (.seq (.ops [.m 22 3, .m 2 22]) .ret)))
def u3_ : LF := ⟨1, 23, c45, [.tmp 2]⟩
theorem wl_ : at_ Tryz.prog Tryz.f45 u3_ := ai_
def c51 : LC :=
 .seq (.ops [.s 4 (.mov (.const (.bool false)))]) (.seq (.seq (.ops [.m 6 0, .ll 7 6, .m 8 1, .ll 9 8, .bb 10 .neq false 7 9]) (.cond (.tmp 10) (.seq (.ops [.s 4 (.mov (.const (.bool false)))]) .ret) .skip)) (.seq (.seq
 (.ops [.ki 5 0]) (.block 0 (.loop (.seq (.seq (.ops [.m 11 5, .m 12 0, .ll 13 12, .bb 14 .lss false 11 13]) (.cond (.tmp 14) .skip (.exit 0))) (.seq (.block 1 (.seq (.dops [.m 17 0, .m 18 5, .ia 19 3 17 18, .ld 20 3 19,
 .m 21 1, .m 22 5, .ia 23 3 21 22, .ld 24 3 23, .c2 25 99 20 24, .nt 26 25]) (.cond (.tmp 26) (.seq (.ops [.s 4 (.mov (.const (.bool false)))]) .ret) .skip))) (.ops [.m 15 5, .bk 16 .add false 15 1, .m 5 16])))))) (.seq
 (.ops [.s 4 (.mov (.const (.bool true)))]) .ret)))
def zA_ : LF := ⟨2, 27, c51, [.tmp 4]⟩
theorem Eo_ : at_ Tryz.prog Tryz.f51 zA_ := ai_
def c8 : LC :=
 .seq (.ops [.s 2 (.box 24 (.tmp 0)), .ki 4 0]) (.seq (.ops [.fa 5 0 2, .ln 6 5, .m 7 1, .c2 8 39 6 7, .m 1 8]) (.seq (.seq (.ops [.m 9 1, .bk 10 .lss false 9 0]) (.cond (.tmp 10) (.seq (.ops [.s 4 (.mov (.const (.int
 .i64 (-1))))]) .ret) .skip)) (.seq (.ops [.m 11 1, .m 4 11]) .ret)))
def lf8 : LF := ⟨2, 12, c8, [.tmp 4]⟩
theorem EO_ : at_ Tryz.prog Tryz.f8 lf8 := ai_
def c11 : LC :=
 .seq (.ops [.s 1 (.box 24 (.tmp 0)), .s 2 (.alloc 30 (.agg #[.slice none 0 0]))]) (.seq (.ops [.s 3 (.alloc 30 (.agg #[.slice none 0 0]))]) (.seq (.ops [.fa 4 0 1, .ln 5 4, .c1 6 45 5, .fa 7 0 3, .st 1 7 6]) (.seq (.ops
 [.ld 8 1 3, .st 1 2 8]) .ret)))
def wf_ : LF := ⟨1, 9, c11, [.cell 2 (some 1)]⟩
theorem w8_ : at_ Tryz.prog Tryz.f11 wf_ := ai_
def c14 : LC :=
 .seq (.ops [.s 2 (.box 30 (.tmp 0)), .s 3 (.box 30 (.tmp 1)), .s 4 (.mov (.const (.bool false)))]) (.seq (.seq (.ops [.fa 5 0 2, .ln 6 5, .fa 7 0 3, .ln 8 7, .c2 9 51 6 8, .nt 10 9]) (.cond (.tmp 10) (.seq (.ops [.s 4
 (.mov (.const (.bool false)))]) .ret) .skip)) (.seq (.ops [.s 4 (.mov (.const (.bool true)))]) .ret))
def Bp_ : LF := ⟨2, 11, c14, [.tmp 4]⟩
theorem Ei_ : at_ Tryz.prog Tryz.f14 Bp_ := ai_
theorem km_ (xs : List ByteArray) (l : Int) (h0 : 0 ≤ l) (h1 : l ≤ 1048576) (hw : dp_ dt_ xs) (h : List Row) : aa_ Tryz.prog 77 [.list 0 1 (xs.map am_), .val (.int .i64 l)] h (.val (.int .i64 (szR (ao_ ByteArray.size xs) l))) := by
 obtain ⟨hx, hs⟩ := hw
 refine aj_ mixed Tryz.func77 D4_ rfl rfl ?_ h
 simp (disch := omega) only [zk_, c77, ag_, go_sem, Nat.reduceEqDiff, reduceCtorEq, Int.reduceNeg, ↓reduceIte, ar_]
 refine ⟨fun hn => ?_, fun hn => ?_⟩
 ·rw [bN_ (by simp only [ao_]; omega)]; exact af_ _ _
 ·refine aL_ (fun n t h => ∃ (k : Nat) (m : Int), t 0 = .list 0 1 (xs.map am_) ∧ t 5 = .val (.int .i64 k) ∧ t 1 = .val (.int .i64 m) ∧ h = [] ∧ n = xs.length - k ∧ k ≤ xs.length ∧ 0 ≤ m ∧ m ≤ 1048576 ∧ szR (ao_ ByteArray.size xs) l = szR (b4_ ByteArray.size (xs.drop k)) m) xs.length ?_ ?_
  ·exact ⟨0, l - xs.length, rfl, rfl, rfl, rfl, rfl, Nat.zero_le _, by omega, by omega, gc_ (by omega)⟩
  ·rintro J hJ n t h ⟨k, m, t0, t5, t1, rfl, rfl, hk, hm0, hm1, hS⟩
   by_cases hlt : k < xs.length
   ·have hd := hI_ ByteArray.size xs k hlt
    have hwk := hs _ (getElem_mem hlt)
    rw [hd] at hS
    unfold dt_ at hwk
    simp (disch := omega) only [t0, t5, t1, hlt, ag_, go_sem, Nat.reduceEqDiff, reduceCtorEq, Int.reduceNeg, ↓reduceIte, ar_]
    refine ⟨fun hn2 => ?_, fun hn2 => ?_⟩
    ·rw [hS, bN_ (by omega)]; exact af_ _ _
    ·exact ⟨xs.length - (k + 1), by omega, hJ _ _ _ ⟨k + 1, m - xs[k].size, by simp [upd, t0], by simp [upd], by simp [upd], rfl, rfl, by omega, by omega, by omega, by rw [hS, gc_ (by omega)]⟩⟩
   ·simp (disch := omega) only [t0, t5, t1, hlt, ag_, go_sem, Nat.reduceEqDiff, reduceCtorEq, Int.reduceNeg, ↓reduceIte]
    rw [hS, drop_eq_nil_of_le (by omega), cP_ (by simp only [b4_]; omega)]
    simp only [b4_, Int.natCast_zero, Int.sub_zero]
    exact af_ _ _
theorem kP_ (xs : List ByteArray) (hb : (ao_ ByteArray.size) xs ≤ 1048576) (h : List Row) : aa_ Tryz.prog 87 [.list 0 1 (xs.map am_)] h (.list 0 1 (xs.map am_)) := by
 have hx := Nat.le_trans (bO_ (f := ByteArray.size) (xs := xs)) hb
 refine aj_ mixed Tryz.func87 xg_ rfl rfl ?_ h
 simp (disch := omega) only [vD_, c87, go_sem, reduceCtorEq, ↓reduceIte]
 refine ⟨by omega, by omega, ?_⟩
 refine aL_ (fun n t h => ∃ k : Nat, t 0 = .list 0 1 (xs.map am_) ∧ t 3 = .own 0 xs.length ∧ t 4 = .val (.int .i64 k) ∧ h = [⟨9, 1, bC_ (xs.map am_) [.val (.string ⟨#[]⟩)] k⟩] ∧ n = xs.length - k ∧ k ≤ xs.length) xs.length ?_ ?_
 ·exact ⟨0, rfl, rfl, rfl, by rw [fG_]; simp, rfl, Nat.zero_le _⟩
 ·rintro J hJ n t h ⟨k, t0, t3, t4, rfl, rfl, hk⟩
  have fl : (bC_ (xs.map am_) [.val (.string ⟨#[]⟩)] k).length = xs.length := by rw [eN_ _ _ (by simpa using hk)]; simp
  by_cases hlt : k < xs.length
  ·have fg : (bC_ (xs.map am_) [.val (.string ⟨#[]⟩)] k)[k]? = some [.val (.string ⟨#[]⟩)] := gt_ _ _ (by simpa using hlt)
   have fs := fL_ (xs.map am_) [.val (.string ⟨#[]⟩)] (am_ xs[k]) (k := k) (by rw [getElem?_map, getElem?_eq_getElem hlt]; rfl)
   simp (disch := omega) only [t0, t3, t4, hlt, fl, fg, ag_, go_sem, Nat.reduceEqDiff, reduceCtorEq, ↓reduceIte, ar_]
   try simp (disch := omega) only [fs, go_sem]
   exact ⟨xs.length - (k + 1), by omega, hJ _ _ _ ⟨k + 1, by simp [upd, t0], by simp [upd, t3], by simp [upd], by simp [], rfl, by omega⟩⟩
  ·simp (disch := omega) only [t0, t3, t4, hlt, fl, ag_, go_sem, Nat.reduceEqDiff, reduceCtorEq, ↓reduceIte]
   have ff : bC_ (xs.map am_) [.val (.string ⟨#[]⟩)] k = xs.map am_ := gE_ _ _ (by simp; omega)
   rw [ff]
   exact g1_ (r := ⟨9, 1, xs.map am_⟩) rfl (by simp) (by intro e he; obtain ⟨x, _, q⟩ := mem_map.1 he; subst q; rfl)
theorem kI_ (xs : List ByteArray) (hb : (ao_ ByteArray.size) xs ≤ 1048576) (h : List Row) : aa_ Tryz.prog 100 [.list 0 1 (xs.map am_), .list 0 1 (xs.map am_)] h (.val (.bool true)) := by
 have hx := Nat.le_trans (bO_ (f := ByteArray.size) (xs := xs)) hb
 refine aj_ mixed Tryz.func100 z0_ rfl rfl ?_ h
 simp (disch := omega) only [xD_, zb_, ag_, go_sem, Nat.reduceEqDiff, reduceCtorEq, ↓reduceIte]
 refine aL_ (fun n t h => ∃ k : Nat, t 0 = .list 0 1 (xs.map am_) ∧ t 1 = .list 0 1 (xs.map am_) ∧ t 5 = .val (.int .i64 k) ∧ h = [] ∧ n = xs.length - k ∧ k ≤ xs.length) xs.length ?_ ?_
 ·exact ⟨0, rfl, rfl, rfl, rfl, rfl, Nat.zero_le _⟩
 ·rintro J hJ n t h ⟨k, t0, t1, t5, rfl, rfl, hk⟩
  by_cases hlt : k < xs.length
  ·simp (disch := omega) only [t0, t1, t5, hlt, ag_, go_sem, Nat.reduceEqDiff, reduceCtorEq, ↓reduceIte, ar_]
   exact ⟨xs.length - (k + 1), by omega, hJ _ _ _ ⟨k + 1, by simp [upd, t0], by simp [upd, t1], by simp [upd], rfl, rfl, by omega⟩⟩
  ·simp (disch := omega) only [t0, t1, t5, hlt, ag_, go_sem, Nat.reduceEqDiff, reduceCtorEq, ↓reduceIte, ar_]
   exact af_ _ _
theorem sH_ (x : ab_) (l : Int) (h0 : 0 ≤ l) (h1 : l ≤ 1048576) (hw : ab_.wf x) (h : List Row) : aa_ Tryz.prog 40 [.agg (ab_.cells x), .val (.int .i64 l)] h (.val (.int .i64 (szR (ab_.sz x) l))) := by
 obtain ⟨w_Kind, w_Name, w_Subs, w_Value, w_N, _⟩ := hw
 have hsz : ab_.sz x = ByteArray.size x.Name + (ao_ ByteArray.size) x.Subs + ByteArray.size x.Value := rfl
 refine aj_ mixed Tryz.func40 DR_ rfl rfl ?_ h
 unfold dt_ at w_Name
 unfold dt_ at w_Value
 simp (disch := omega) only [Cs_, c40, ab_.cells, ag_, go_sem, Nat.reduceEqDiff, Nat.reduceAdd, Int.reduceNeg, ↓reduceIte, ar_]
 refine ⟨fun hn => ?_, fun hn_Name => ?_⟩
 ·rw [bN_ (by omega)]; exact af_ _ _
 try simp (disch := omega) only [ar_]
 refine aa_.call (km_ x.Subs (l - ByteArray.size x.Name) (by omega) (by omega) w_Subs _) ?_
 by_cases hn_Subs : ((ao_ ByteArray.size) x.Subs : Int) ≤ l - ByteArray.size x.Name
 case neg =>
  rw [bN_ (n := (ao_ ByteArray.size) x.Subs) (l := l - ByteArray.size x.Name) (by omega)]
  simp (disch := omega) only [ag_, go_sem, Nat.reduceEqDiff, Int.reduceNeg, ↓reduceIte, ar_]
  rw [bN_ (by omega)]; exact af_ _ _
 rw [cP_ (n := (ao_ ByteArray.size) x.Subs) (l := l - ByteArray.size x.Name) hn_Subs]
 simp (disch := omega) only [ag_, go_sem, Nat.reduceEqDiff, Int.reduceNeg, ↓reduceIte, ar_]
 refine ⟨fun hn => absurd hn (by omega), fun _ => ?_⟩
 refine ⟨fun hn => ?_, fun hn_Value => ?_⟩
 ·rw [bN_ (by omega)]; exact af_ _ _
 try simp (disch := omega) only [ar_]
 rw [cP_ (by omega), hsz]
 have hfin : l - ((ByteArray.size x.Name + (ao_ ByteArray.size) x.Subs + ByteArray.size x.Value : Nat) : Int) = l - ByteArray.size x.Name - (ao_ ByteArray.size) x.Subs - ByteArray.size x.Value := by omega
 rw [hfin]; exact af_ _ _
theorem sx_ (x : ab_) (hb : ab_.sz x ≤ 1048576) (h : List Row) : aa_ Tryz.prog 46 [.agg (ab_.cells x)] h (.agg (ab_.cells x)) := by
 have hsz : ab_.sz x = ByteArray.size x.Name + (ao_ ByteArray.size) x.Subs + ByteArray.size x.Value := rfl
 refine aj_ mixed Tryz.func46 xN_ rfl rfl ?_ h
 simp (disch := omega) only [v6_, c46, ab_.cells, go_sem, Nat.reduceEqDiff, Nat.reduceAdd, Nat.reduceLeDiff, ↓reduceIte]
 refine aa_.call (kP_ x.Subs (by omega) _) ?_
 simp (disch := omega) only [go_sem, Nat.reduceEqDiff, Nat.reduceAdd, Nat.reduceLeDiff, ↓reduceIte, cD_]
 exact g3_ _ _ rfl
theorem st_ (x : ab_) (hb : ab_.sz x ≤ 1048576) (h : List Row) : aa_ Tryz.prog 52 [.agg (ab_.cells x), .agg (ab_.cells x)] h (.val (.bool true)) := by
 have hsz : ab_.sz x = ByteArray.size x.Name + (ao_ ByteArray.size) x.Subs + ByteArray.size x.Value := rfl
 refine aj_ mixed Tryz.func52 Es_ rfl rfl ?_ h
 simp (disch := omega) only [y6_, c52, ab_.cells, ag_, go_sem, Nat.reduceEqDiff, Nat.reduceAdd, ↓reduceIte]
 refine aa_.call (kI_ x.Subs (by omega) _) ?_
 simp (disch := omega) only [ag_, go_sem, Nat.reduceEqDiff, ↓reduceIte]
 exact af_ _ _
theorem qp_ (xs : List ab_) (l : Int) (h0 : 0 ≤ l) (h1 : l ≤ 1048576) (hw : dp_ ab_.wf xs) (h : List Row) : aa_ Tryz.prog 9 [.list 0 5 (xs.map ab_.cells), .val (.int .i64 l)] h (.val (.int .i64 (szR (ao_ ab_.sz xs) l))) := by
 obtain ⟨hx, hs⟩ := hw
 refine aj_ mixed Tryz.func9 ED_ rfl rfl ?_ h
 simp (disch := omega) only [lf9, c9, ag_, go_sem, Nat.reduceEqDiff, reduceCtorEq, Int.reduceNeg, ↓reduceIte, ar_]
 refine ⟨fun hn => ?_, fun hn => ?_⟩
 ·rw [bN_ (by simp only [ao_]; omega)]; exact af_ _ _
 ·refine aL_ (fun n t h => ∃ (k : Nat) (m : Int), t 0 = .list 0 5 (xs.map ab_.cells) ∧ t 5 = .val (.int .i64 k) ∧ t 1 = .val (.int .i64 m) ∧ h = [] ∧ n = xs.length - k ∧ k ≤ xs.length ∧ 0 ≤ m ∧ m ≤ 1048576 ∧ szR (ao_ ab_.sz xs) l = szR (b4_ ab_.sz (xs.drop k)) m) xs.length ?_ ?_
  ·exact ⟨0, l - xs.length, rfl, rfl, rfl, rfl, rfl, Nat.zero_le _, by omega, by omega, gc_ (by omega)⟩
  ·rintro J hJ n t h ⟨k, m, t0, t5, t1, rfl, rfl, hk, hm0, hm1, hS⟩
   by_cases hlt : k < xs.length
   ·have hd := hI_ ab_.sz xs k hlt
    have hwk := hs _ (getElem_mem hlt)
    rw [hd] at hS
    simp (disch := omega) only [t0, t5, t1, hlt, ab_.cells, ag_, go_sem, Nat.reduceEqDiff, Nat.reduceAdd, reduceCtorEq, Int.reduceNeg, ↓reduceIte]
    refine aa_.call (sH_ xs[k] m hm0 hm1 hwk []) ?_
    by_cases hc : (ab_.sz xs[k] : Int) ≤ m
    ·rw [cP_ (n := ab_.sz xs[k]) (l := m) hc]
     simp (disch := omega) only [t5, ag_, go_sem, Nat.reduceEqDiff, Int.reduceNeg, ↓reduceIte, ar_]
     refine ⟨fun hn2 => absurd hn2 (by omega), fun _ => ?_⟩
     exact ⟨xs.length - (k + 1), by omega, hJ _ _ _ ⟨k + 1, m - ab_.sz xs[k], by simp [upd, t0], by simp [upd], by simp [upd], rfl, rfl, by omega, by omega, by omega, by rw [hS, gc_ (by omega)]⟩⟩
    ·rw [bN_ (n := ab_.sz xs[k]) (l := m) (by omega)]
     simp (disch := omega) only [t5, ag_, go_sem, Nat.reduceEqDiff, Int.reduceNeg, ↓reduceIte, ar_]
     rw [hS, bN_ (by omega)]; exact af_ _ _
   ·simp (disch := omega) only [t0, t5, t1, hlt, ag_, go_sem, Nat.reduceEqDiff, reduceCtorEq, Int.reduceNeg, ↓reduceIte]
    rw [hS, drop_eq_nil_of_le (by omega), cP_ (by simp only [b4_]; omega)]
    simp only [b4_, Int.natCast_zero, Int.sub_zero]
    exact af_ _ _
theorem qr_ (xs : List ab_) (hb : (ao_ ab_.sz) xs ≤ 1048576) (h : List Row) : aa_ Tryz.prog 12 [.list 0 5 (xs.map ab_.cells)] h (.list 0 5 (xs.map ab_.cells)) := by
 have hx := Nat.le_trans (bO_ (f := ab_.sz) (xs := xs)) hb
 refine aj_ mixed Tryz.func12 xR_ rfl rfl ?_ h
 simp (disch := omega) only [uJ_, c12, go_sem, reduceCtorEq, ↓reduceIte]
 refine ⟨by omega, by omega, ?_⟩
 refine aL_ (fun n t h => ∃ k : Nat, t 0 = .list 0 5 (xs.map ab_.cells) ∧ t 3 = .own 0 xs.length ∧ t 4 = .val (.int .i64 k) ∧ h = [⟨79, 5, bC_ (xs.map ab_.cells) [.val (.int .i64 0), .val (.string ⟨#[]⟩), .val (.slice none 0 0), .val (.string ⟨#[]⟩), .val (.int .i64 0)] k⟩] ∧ n = xs.length - k ∧ k ≤ xs.length) xs.length ?_ ?_
 ·exact ⟨0, rfl, rfl, rfl, by rw [fG_]; simp, rfl, Nat.zero_le _⟩
 ·rintro J hJ n t h ⟨k, t0, t3, t4, rfl, rfl, hk⟩
  have fl : (bC_ (xs.map ab_.cells) [.val (.int .i64 0), .val (.string ⟨#[]⟩), .val (.slice none 0 0), .val (.string ⟨#[]⟩), .val (.int .i64 0)] k).length = xs.length := by rw [eN_ _ _ (by simpa using hk)]; simp
  by_cases hlt : k < xs.length
  ·have fg : (bC_ (xs.map ab_.cells) [.val (.int .i64 0), .val (.string ⟨#[]⟩), .val (.slice none 0 0), .val (.string ⟨#[]⟩), .val (.int .i64 0)] k)[k]? = some [.val (.int .i64 0), .val (.string ⟨#[]⟩), .val (.slice none 0 0), .val (.string ⟨#[]⟩), .val (.int .i64 0)] := gt_ _ _ (by simpa using hlt)
   have fs := fL_ (xs.map ab_.cells) [.val (.int .i64 0), .val (.string ⟨#[]⟩), .val (.slice none 0 0), .val (.string ⟨#[]⟩), .val (.int .i64 0)] (ab_.cells xs[k]) (k := k) (by rw [getElem?_map, getElem?_eq_getElem hlt]; rfl)
   simp only [ab_.cells] at fs
   simp (disch := omega) only [t0, t3, t4, hlt, ab_.cells, ag_, go_sem, Nat.reduceEqDiff, Nat.reduceAdd, reduceCtorEq, ↓reduceIte]
   refine aa_.call (sx_ xs[k] (by have := bD_ (f := ab_.sz) (getElem_mem hlt); omega) _) ?_
   simp (disch := omega) only [t4, hlt, fl, fg, fs, ab_.cells, go_sem, Nat.reduceEqDiff, Nat.reduceAdd, ↓reduceIte, ar_]
   exact ⟨xs.length - (k + 1), by omega, hJ _ _ _ ⟨k + 1, by simp [upd, t0], by simp [upd, t3], by simp [upd], rfl, rfl, by omega⟩⟩
  ·simp (disch := omega) only [t0, t3, t4, hlt, ag_, go_sem, Nat.reduceEqDiff, reduceCtorEq, ↓reduceIte]
   have ff : bC_ (xs.map ab_.cells) [.val (.int .i64 0), .val (.string ⟨#[]⟩), .val (.slice none 0 0), .val (.string ⟨#[]⟩), .val (.int .i64 0)] k = xs.map ab_.cells := gE_ _ _ (by simp; omega)
   rw [ff]
   exact g1_ (r := ⟨79, 5, xs.map ab_.cells⟩) rfl (by simp) (by intro e he; obtain ⟨x, _, q⟩ := mem_map.1 he; subst q; rfl)
theorem rd_ (xs : List ab_) (hb : (ao_ ab_.sz) xs ≤ 1048576) (h : List Row) : aa_ Tryz.prog 15 [.list 0 5 (xs.map ab_.cells), .list 0 5 (xs.map ab_.cells)] h (.val (.bool true)) := by
 have hx := Nat.le_trans (bO_ (f := ab_.sz) (xs := xs)) hb
 refine aj_ mixed Tryz.func15 D5_ rfl rfl ?_ h
 simp (disch := omega) only [A0_, c15, ag_, go_sem, Nat.reduceEqDiff, reduceCtorEq, ↓reduceIte]
 refine aL_ (fun n t h => ∃ k : Nat, t 0 = .list 0 5 (xs.map ab_.cells) ∧ t 1 = .list 0 5 (xs.map ab_.cells) ∧ t 5 = .val (.int .i64 k) ∧ h = [] ∧ n = xs.length - k ∧ k ≤ xs.length) xs.length ?_ ?_
 ·exact ⟨0, rfl, rfl, rfl, rfl, rfl, Nat.zero_le _⟩
 ·rintro J hJ n t h ⟨k, t0, t1, t5, rfl, rfl, hk⟩
  by_cases hlt : k < xs.length
  ·simp (disch := omega) only [t0, t1, t5, hlt, ab_.cells, ag_, go_sem, Nat.reduceEqDiff, Nat.reduceAdd, reduceCtorEq, ↓reduceIte, ar_]
   refine aa_.q (st_ xs[k] (by have := bD_ (f := ab_.sz) (getElem_mem hlt); omega) _) ?_
   simp (disch := omega) only [go_sem]
   exact ⟨xs.length - (k + 1), by omega, hJ _ _ _ ⟨k + 1, by simp [upd, t0], by simp [upd, t1], by simp [upd], rfl, rfl, by omega⟩⟩
  ·simp (disch := omega) only [t0, t1, t5, hlt, ag_, go_sem, Nat.reduceEqDiff, reduceCtorEq, ↓reduceIte, ar_]
   exact af_ _ _
theorem t5_ (x : ac_) (l : Int) (h0 : 0 ≤ l) (h1 : l ≤ 1048576) (hw : ac_.wf x) (h : List Row) : aa_ Tryz.prog 76 [.agg (ac_.cells x), .val (.int .i64 l)] h (.val (.int .i64 (szR (ac_.sz x) l))) := by
 obtain ⟨w_Name, w_Subs, w_Value, _⟩ := hw
 have hsz : ac_.sz x = ByteArray.size x.Name + (ao_ ByteArray.size) x.Subs + ByteArray.size x.Value := rfl
 refine aj_ mixed Tryz.func76 DS_ rfl rfl ?_ h
 unfold dt_ at w_Name
 unfold dt_ at w_Value
 simp (disch := omega) only [Ak_, c76, ac_.cells, ag_, go_sem, Nat.reduceEqDiff, Nat.reduceAdd, Int.reduceNeg, ↓reduceIte, ar_]
 refine ⟨fun hn => ?_, fun hn_Name => ?_⟩
 ·rw [bN_ (by omega)]; exact af_ _ _
 try simp (disch := omega) only [ar_]
 refine aa_.call (km_ x.Subs (l - ByteArray.size x.Name) (by omega) (by omega) w_Subs _) ?_
 by_cases hn_Subs : ((ao_ ByteArray.size) x.Subs : Int) ≤ l - ByteArray.size x.Name
 case neg =>
  rw [bN_ (n := (ao_ ByteArray.size) x.Subs) (l := l - ByteArray.size x.Name) (by omega)]
  simp (disch := omega) only [ag_, go_sem, Nat.reduceEqDiff, Int.reduceNeg, ↓reduceIte, ar_]
  rw [bN_ (by omega)]; exact af_ _ _
 rw [cP_ (n := (ao_ ByteArray.size) x.Subs) (l := l - ByteArray.size x.Name) hn_Subs]
 simp (disch := omega) only [ag_, go_sem, Nat.reduceEqDiff, Int.reduceNeg, ↓reduceIte, ar_]
 refine ⟨fun hn => absurd hn (by omega), fun _ => ?_⟩
 refine ⟨fun hn => ?_, fun hn_Value => ?_⟩
 ·rw [bN_ (by omega)]; exact af_ _ _
 try simp (disch := omega) only [ar_]
 rw [cP_ (by omega), hsz]
 have hfin : l - ((ByteArray.size x.Name + (ao_ ByteArray.size) x.Subs + ByteArray.size x.Value : Nat) : Int) = l - ByteArray.size x.Name - (ao_ ByteArray.size) x.Subs - ByteArray.size x.Value := by omega
 rw [hfin]; exact af_ _ _
theorem ts_ (x : ac_) (hb : ac_.sz x ≤ 1048576) (h : List Row) : aa_ Tryz.prog 86 [.agg (ac_.cells x)] h (.agg (ac_.cells x)) := by
 have hsz : ac_.sz x = ByteArray.size x.Name + (ao_ ByteArray.size) x.Subs + ByteArray.size x.Value := rfl
 refine aj_ mixed Tryz.func86 xA_ rfl rfl ?_ h
 simp (disch := omega) only [up_, c86, ac_.cells, go_sem, Nat.reduceEqDiff, Nat.reduceAdd, Nat.reduceLeDiff, ↓reduceIte]
 refine aa_.call (kP_ x.Subs (by omega) _) ?_
 simp (disch := omega) only [go_sem, Nat.reduceEqDiff, Nat.reduceAdd, Nat.reduceLeDiff, ↓reduceIte, cD_]
 exact g3_ _ _ rfl
theorem tx_ (x : ac_) (hb : ac_.sz x ≤ 1048576) (h : List Row) : aa_ Tryz.prog 99 [.agg (ac_.cells x), .agg (ac_.cells x)] h (.val (.bool true)) := by
 have hsz : ac_.sz x = ByteArray.size x.Name + (ao_ ByteArray.size) x.Subs + ByteArray.size x.Value := rfl
 refine aj_ mixed Tryz.func99 Ew_ rfl rfl ?_ h
 simp (disch := omega) only [AV_, c99, ac_.cells, ag_, go_sem, Nat.reduceEqDiff, Nat.reduceAdd, ↓reduceIte]
 refine aa_.call (kI_ x.Subs (by omega) _) ?_
 simp (disch := omega) only [ag_, go_sem, Nat.reduceEqDiff, ↓reduceIte]
 exact af_ _ _
theorem rF_ (x : ah_) (l : Int) (h0 : 0 ≤ l) (h1 : l ≤ 1048576) (hw : ah_.wf x) (h : List Row) : aa_ Tryz.prog 57 [.agg (ah_.cells x), .val (.int .i64 l)] h (.val (.int .i64 (szR (ah_.sz x) l))) := by
 obtain ⟨w_Job, w_Events, _⟩ := hw
 have hsz : ah_.sz x = (ao_ ab_.sz) x.Events := rfl
 refine aj_ mixed Tryz.func57 Ev_ rfl rfl ?_ h
 simp (disch := omega) only [BE_, c57, ah_.cells, go_sem, Nat.reduceEqDiff, Nat.reduceAdd, Int.reduceNeg, ↓reduceIte]
 refine aa_.call (qp_ x.Events (l) (by omega) (by omega) w_Events _) ?_
 by_cases hn_Events : ((ao_ ab_.sz) x.Events : Int) ≤ l
 case neg =>
  rw [bN_ (n := (ao_ ab_.sz) x.Events) (l := l) (by omega)]
  simp (disch := omega) only [ag_, go_sem, Nat.reduceEqDiff, Int.reduceNeg, ↓reduceIte]
  rw [bN_ (by omega)]; exact af_ _ _
 rw [cP_ (n := (ao_ ab_.sz) x.Events) (l := l) hn_Events]
 simp (disch := omega) only [ag_, go_sem, Nat.reduceEqDiff, Int.reduceNeg, ↓reduceIte]
 refine ⟨fun hn => absurd hn (by omega), fun _ => ?_⟩
 rw [cP_ (by omega), hsz]
 have hfin : l - (((ao_ ab_.sz) x.Events : Nat) : Int) = l - (ao_ ab_.sz) x.Events := by omega
 rw [hfin]; exact af_ _ _
theorem se_ (x : ah_) (hb : ah_.sz x ≤ 1048576) (h : List Row) : aa_ Tryz.prog 60 [.agg (ah_.cells x)] h (.agg (ah_.cells x)) := by
 have hsz : ah_.sz x = (ao_ ab_.sz) x.Events := rfl
 refine aj_ mixed Tryz.func60 wI_ rfl rfl ?_ h
 simp (disch := omega) only [uS_, c60, ah_.cells, go_sem, Nat.reduceEqDiff, Nat.reduceAdd, Nat.reduceLeDiff, ↓reduceIte]
 refine aa_.call (qr_ x.Events (by omega) _) ?_
 simp (disch := omega) only [go_sem, Nat.reduceEqDiff, Nat.reduceAdd, ↓reduceIte, cD_]
 exact g3_ _ _ rfl
theorem sa_ (x : ah_) (hb : ah_.sz x ≤ 1048576) (h : List Row) : aa_ Tryz.prog 62 [.agg (ah_.cells x), .agg (ah_.cells x)] h (.val (.bool true)) := by
 have hsz : ah_.sz x = (ao_ ab_.sz) x.Events := rfl
 refine aj_ mixed Tryz.func62 DV_ rfl rfl ?_ h
 simp (disch := omega) only [zz_, c62, ah_.cells, ag_, go_sem, Nat.reduceEqDiff, Nat.reduceAdd, ↓reduceIte]
 refine aa_.call (rd_ x.Events (by omega) _) ?_
 simp (disch := omega) only [ag_, go_sem, ↓reduceIte]
 exact af_ _ _
theorem qy_ (xs : List ah_) (l : Int) (h0 : 0 ≤ l) (h1 : l ≤ 1048576) (hw : dp_ ah_.wf xs) (h : List Row) : aa_ Tryz.prog 19 [.list 0 2 (xs.map ah_.cells), .val (.int .i64 l)] h (.val (.int .i64 (szR (ao_ ah_.sz xs) l))) := by
 obtain ⟨hx, hs⟩ := hw
 refine aj_ mixed Tryz.func19 DN_ rfl rfl ?_ h
 simp (disch := omega) only [z5_, c19, ag_, go_sem, Nat.reduceEqDiff, reduceCtorEq, Int.reduceNeg, ↓reduceIte, ar_]
 refine ⟨fun hn => ?_, fun hn => ?_⟩
 ·rw [bN_ (by simp only [ao_]; omega)]; exact af_ _ _
 ·refine aL_ (fun n t h => ∃ (k : Nat) (m : Int), t 0 = .list 0 2 (xs.map ah_.cells) ∧ t 5 = .val (.int .i64 k) ∧ t 1 = .val (.int .i64 m) ∧ h = [] ∧ n = xs.length - k ∧ k ≤ xs.length ∧ 0 ≤ m ∧ m ≤ 1048576 ∧ szR (ao_ ah_.sz xs) l = szR (b4_ ah_.sz (xs.drop k)) m) xs.length ?_ ?_
  ·exact ⟨0, l - xs.length, rfl, rfl, rfl, rfl, rfl, Nat.zero_le _, by omega, by omega, gc_ (by omega)⟩
  ·rintro J hJ n t h ⟨k, m, t0, t5, t1, rfl, rfl, hk, hm0, hm1, hS⟩
   by_cases hlt : k < xs.length
   ·have hd := hI_ ah_.sz xs k hlt
    have hwk := hs _ (getElem_mem hlt)
    rw [hd] at hS
    simp (disch := omega) only [t0, t5, t1, hlt, ah_.cells, ag_, go_sem, Nat.reduceEqDiff, Nat.reduceAdd, reduceCtorEq, Int.reduceNeg, ↓reduceIte]
    refine aa_.call (rF_ xs[k] m hm0 hm1 hwk []) ?_
    by_cases hc : (ah_.sz xs[k] : Int) ≤ m
    ·rw [cP_ (n := ah_.sz xs[k]) (l := m) hc]
     simp (disch := omega) only [t5, ag_, go_sem, Nat.reduceEqDiff, Int.reduceNeg, ↓reduceIte, ar_]
     refine ⟨fun hn2 => absurd hn2 (by omega), fun _ => ?_⟩
     exact ⟨xs.length - (k + 1), by omega, hJ _ _ _ ⟨k + 1, m - ah_.sz xs[k], by simp [upd, t0], by simp [upd], by simp [upd], rfl, rfl, by omega, by omega, by omega, by rw [hS, gc_ (by omega)]⟩⟩
    ·rw [bN_ (n := ah_.sz xs[k]) (l := m) (by omega)]
     simp (disch := omega) only [t5, ag_, go_sem, Nat.reduceEqDiff, Int.reduceNeg, ↓reduceIte, ar_]
     rw [hS, bN_ (by omega)]; exact af_ _ _
   ·simp (disch := omega) only [t0, t5, t1, hlt, ag_, go_sem, Nat.reduceEqDiff, reduceCtorEq, Int.reduceNeg, ↓reduceIte]
    rw [hS, drop_eq_nil_of_le (by omega), cP_ (by simp only [b4_]; omega)]
    simp only [b4_, Int.natCast_zero, Int.sub_zero]
    exact af_ _ _
theorem eR_ (xs : List ah_) (hb : (ao_ ah_.sz) xs ≤ 1048576) (h : List Row) : aa_ Tryz.prog 21 [.list 0 2 (xs.map ah_.cells)] h (.list 0 2 (xs.map ah_.cells)) := by
 have hx := Nat.le_trans (bO_ (f := ah_.sz) (xs := xs)) hb
 refine aj_ mixed Tryz.func21 wj_ rfl rfl ?_ h
 simp (disch := omega) only [vt_, c21, go_sem, reduceCtorEq, ↓reduceIte]
 refine ⟨by omega, by omega, ?_⟩
 refine aL_ (fun n t h => ∃ k : Nat, t 0 = .list 0 2 (xs.map ah_.cells) ∧ t 3 = .own 0 xs.length ∧ t 4 = .val (.int .i64 k) ∧ h = [⟨92, 2, bC_ (xs.map ah_.cells) [.val (.int .i64 0), .val (.slice none 0 0)] k⟩] ∧ n = xs.length - k ∧ k ≤ xs.length) xs.length ?_ ?_
 ·exact ⟨0, rfl, rfl, rfl, by rw [fG_]; simp, rfl, Nat.zero_le _⟩
 ·rintro J hJ n t h ⟨k, t0, t3, t4, rfl, rfl, hk⟩
  have fl : (bC_ (xs.map ah_.cells) [.val (.int .i64 0), .val (.slice none 0 0)] k).length = xs.length := by rw [eN_ _ _ (by simpa using hk)]; simp
  by_cases hlt : k < xs.length
  ·have fg : (bC_ (xs.map ah_.cells) [.val (.int .i64 0), .val (.slice none 0 0)] k)[k]? = some [.val (.int .i64 0), .val (.slice none 0 0)] := gt_ _ _ (by simpa using hlt)
   have fs := fL_ (xs.map ah_.cells) [.val (.int .i64 0), .val (.slice none 0 0)] (ah_.cells xs[k]) (k := k) (by rw [getElem?_map, getElem?_eq_getElem hlt]; rfl)
   simp only [ah_.cells] at fs
   simp (disch := omega) only [t0, t3, t4, hlt, ah_.cells, ag_, go_sem, Nat.reduceEqDiff, Nat.reduceAdd, reduceCtorEq, ↓reduceIte]
   refine aa_.call (se_ xs[k] (by have := bD_ (f := ah_.sz) (getElem_mem hlt); omega) _) ?_
   simp (disch := omega) only [t4, hlt, fl, fg, fs, ah_.cells, go_sem, Nat.reduceEqDiff, Nat.reduceAdd, ↓reduceIte, ar_]
   exact ⟨xs.length - (k + 1), by omega, hJ _ _ _ ⟨k + 1, by simp [upd, t0], by simp [upd, t3], by simp [upd], rfl, rfl, by omega⟩⟩
  ·simp (disch := omega) only [t0, t3, t4, hlt, ag_, go_sem, Nat.reduceEqDiff, reduceCtorEq, ↓reduceIte]
   have ff : bC_ (xs.map ah_.cells) [.val (.int .i64 0), .val (.slice none 0 0)] k = xs.map ah_.cells := gE_ _ _ (by simp; omega)
   rw [ff]
   exact g1_ (r := ⟨92, 2, xs.map ah_.cells⟩) rfl (by simp) (by intro e he; obtain ⟨x, _, q⟩ := mem_map.1 he; subst q; rfl)
theorem lP_ (xs : List ah_) (hb : (ao_ ah_.sz) xs ≤ 1048576) (h : List Row) : aa_ Tryz.prog 23 [.list 0 2 (xs.map ah_.cells), .list 0 2 (xs.map ah_.cells)] h (.val (.bool true)) := by
 have hx := Nat.le_trans (bO_ (f := ah_.sz) (xs := xs)) hb
 refine aj_ mixed Tryz.func23 D9_ rfl rfl ?_ h
 simp (disch := omega) only [A3_, c23, ag_, go_sem, Nat.reduceEqDiff, reduceCtorEq, ↓reduceIte]
 refine aL_ (fun n t h => ∃ k : Nat, t 0 = .list 0 2 (xs.map ah_.cells) ∧ t 1 = .list 0 2 (xs.map ah_.cells) ∧ t 5 = .val (.int .i64 k) ∧ h = [] ∧ n = xs.length - k ∧ k ≤ xs.length) xs.length ?_ ?_
 ·exact ⟨0, rfl, rfl, rfl, rfl, rfl, Nat.zero_le _⟩
 ·rintro J hJ n t h ⟨k, t0, t1, t5, rfl, rfl, hk⟩
  by_cases hlt : k < xs.length
  ·simp (disch := omega) only [t0, t1, t5, hlt, ah_.cells, ag_, go_sem, Nat.reduceEqDiff, Nat.reduceAdd, reduceCtorEq, ↓reduceIte, ar_]
   refine aa_.q (sa_ xs[k] (by have := bD_ (f := ah_.sz) (getElem_mem hlt); omega) _) ?_
   simp (disch := omega) only [go_sem]
   exact ⟨xs.length - (k + 1), by omega, hJ _ _ _ ⟨k + 1, by simp [upd, t0], by simp [upd, t1], by simp [upd], rfl, rfl, by omega⟩⟩
  ·simp (disch := omega) only [t0, t1, t5, hlt, ag_, go_sem, Nat.reduceEqDiff, reduceCtorEq, ↓reduceIte, ar_]
   exact af_ _ _
theorem rL_ (xs : List ac_) (l : Int) (h0 : 0 ≤ l) (h1 : l ≤ 1048576) (hw : dp_ ac_.wf xs) (h : List Row) : aa_ Tryz.prog 39 [.list 0 3 (xs.map ac_.cells), .val (.int .i64 l)] h (.val (.int .i64 (szR (ao_ ac_.sz xs) l))) := by
 obtain ⟨hx, hs⟩ := hw
 refine aj_ mixed Tryz.func39 DB_ rfl rfl ?_ h
 simp (disch := omega) only [Bu_, c39, ag_, go_sem, Nat.reduceEqDiff, reduceCtorEq, Int.reduceNeg, ↓reduceIte, ar_]
 refine ⟨fun hn => ?_, fun hn => ?_⟩
 ·rw [bN_ (by simp only [ao_]; omega)]; exact af_ _ _
 ·refine aL_ (fun n t h => ∃ (k : Nat) (m : Int), t 0 = .list 0 3 (xs.map ac_.cells) ∧ t 5 = .val (.int .i64 k) ∧ t 1 = .val (.int .i64 m) ∧ h = [] ∧ n = xs.length - k ∧ k ≤ xs.length ∧ 0 ≤ m ∧ m ≤ 1048576 ∧ szR (ao_ ac_.sz xs) l = szR (b4_ ac_.sz (xs.drop k)) m) xs.length ?_ ?_
  ·exact ⟨0, l - xs.length, rfl, rfl, rfl, rfl, rfl, Nat.zero_le _, by omega, by omega, gc_ (by omega)⟩
  ·rintro J hJ n t h ⟨k, m, t0, t5, t1, rfl, rfl, hk, hm0, hm1, hS⟩
   by_cases hlt : k < xs.length
   ·have hd := hI_ ac_.sz xs k hlt
    have hwk := hs _ (getElem_mem hlt)
    rw [hd] at hS
    simp (disch := omega) only [t0, t5, t1, hlt, ac_.cells, ag_, go_sem, Nat.reduceEqDiff, Nat.reduceAdd, reduceCtorEq, Int.reduceNeg, ↓reduceIte]
    refine aa_.call (t5_ xs[k] m hm0 hm1 hwk []) ?_
    by_cases hc : (ac_.sz xs[k] : Int) ≤ m
    ·rw [cP_ (n := ac_.sz xs[k]) (l := m) hc]
     simp (disch := omega) only [t5, ag_, go_sem, Nat.reduceEqDiff, Int.reduceNeg, ↓reduceIte, ar_]
     refine ⟨fun hn2 => absurd hn2 (by omega), fun _ => ?_⟩
     exact ⟨xs.length - (k + 1), by omega, hJ _ _ _ ⟨k + 1, m - ac_.sz xs[k], by simp [upd, t0], by simp [upd], by simp [upd], rfl, rfl, by omega, by omega, by omega, by rw [hS, gc_ (by omega)]⟩⟩
    ·rw [bN_ (n := ac_.sz xs[k]) (l := m) (by omega)]
     simp (disch := omega) only [t5, ag_, go_sem, Nat.reduceEqDiff, Int.reduceNeg, ↓reduceIte, ar_]
     rw [hS, bN_ (by omega)]; exact af_ _ _
   ·simp (disch := omega) only [t0, t5, t1, hlt, ag_, go_sem, Nat.reduceEqDiff, reduceCtorEq, Int.reduceNeg, ↓reduceIte]
    rw [hS, drop_eq_nil_of_le (by omega), cP_ (by simp only [b4_]; omega)]
    simp only [b4_, Int.natCast_zero, Int.sub_zero]
    exact af_ _ _
theorem s7_ (xs : List ac_) (hb : (ao_ ac_.sz) xs ≤ 1048576) (h : List Row) : aa_ Tryz.prog 45 [.list 0 3 (xs.map ac_.cells)] h (.list 0 3 (xs.map ac_.cells)) := by
 have hx := Nat.le_trans (bO_ (f := ac_.sz) (xs := xs)) hb
 refine aj_ mixed Tryz.func45 wl_ rfl rfl ?_ h
 simp (disch := omega) only [u3_, c45, go_sem, reduceCtorEq, ↓reduceIte]
 refine ⟨by omega, by omega, ?_⟩
 refine aL_ (fun n t h => ∃ k : Nat, t 0 = .list 0 3 (xs.map ac_.cells) ∧ t 3 = .own 0 xs.length ∧ t 4 = .val (.int .i64 k) ∧ h = [⟨112, 3, bC_ (xs.map ac_.cells) [.val (.string ⟨#[]⟩), .val (.slice none 0 0), .val (.string ⟨#[]⟩)] k⟩] ∧ n = xs.length - k ∧ k ≤ xs.length) xs.length ?_ ?_
 ·exact ⟨0, rfl, rfl, rfl, by rw [fG_]; simp, rfl, Nat.zero_le _⟩
 ·rintro J hJ n t h ⟨k, t0, t3, t4, rfl, rfl, hk⟩
  have fl : (bC_ (xs.map ac_.cells) [.val (.string ⟨#[]⟩), .val (.slice none 0 0), .val (.string ⟨#[]⟩)] k).length = xs.length := by rw [eN_ _ _ (by simpa using hk)]; simp
  by_cases hlt : k < xs.length
  ·have fg : (bC_ (xs.map ac_.cells) [.val (.string ⟨#[]⟩), .val (.slice none 0 0), .val (.string ⟨#[]⟩)] k)[k]? = some [.val (.string ⟨#[]⟩), .val (.slice none 0 0), .val (.string ⟨#[]⟩)] := gt_ _ _ (by simpa using hlt)
   have fs := fL_ (xs.map ac_.cells) [.val (.string ⟨#[]⟩), .val (.slice none 0 0), .val (.string ⟨#[]⟩)] (ac_.cells xs[k]) (k := k) (by rw [getElem?_map, getElem?_eq_getElem hlt]; rfl)
   simp only [ac_.cells] at fs
   simp (disch := omega) only [t0, t3, t4, hlt, ac_.cells, ag_, go_sem, Nat.reduceEqDiff, Nat.reduceAdd, reduceCtorEq, ↓reduceIte]
   refine aa_.call (ts_ xs[k] (by have := bD_ (f := ac_.sz) (getElem_mem hlt); omega) _) ?_
   simp (disch := omega) only [t4, hlt, fl, fg, fs, ac_.cells, go_sem, Nat.reduceEqDiff, Nat.reduceAdd, ↓reduceIte, ar_]
   exact ⟨xs.length - (k + 1), by omega, hJ _ _ _ ⟨k + 1, by simp [upd, t0], by simp [upd, t3], by simp [upd], rfl, rfl, by omega⟩⟩
  ·simp (disch := omega) only [t0, t3, t4, hlt, ag_, go_sem, Nat.reduceEqDiff, reduceCtorEq, ↓reduceIte]
   have ff : bC_ (xs.map ac_.cells) [.val (.string ⟨#[]⟩), .val (.slice none 0 0), .val (.string ⟨#[]⟩)] k = xs.map ac_.cells := gE_ _ _ (by simp; omega)
   rw [ff]
   exact g1_ (r := ⟨112, 3, xs.map ac_.cells⟩) rfl (by simp) (by intro e he; obtain ⟨x, _, q⟩ := mem_map.1 he; subst q; rfl)
theorem rS_ (xs : List ac_) (hb : (ao_ ac_.sz) xs ≤ 1048576) (h : List Row) : aa_ Tryz.prog 51 [.list 0 3 (xs.map ac_.cells), .list 0 3 (xs.map ac_.cells)] h (.val (.bool true)) := by
 have hx := Nat.le_trans (bO_ (f := ac_.sz) (xs := xs)) hb
 refine aj_ mixed Tryz.func51 Eo_ rfl rfl ?_ h
 simp (disch := omega) only [zA_, c51, ag_, go_sem, Nat.reduceEqDiff, reduceCtorEq, ↓reduceIte]
 refine aL_ (fun n t h => ∃ k : Nat, t 0 = .list 0 3 (xs.map ac_.cells) ∧ t 1 = .list 0 3 (xs.map ac_.cells) ∧ t 5 = .val (.int .i64 k) ∧ h = [] ∧ n = xs.length - k ∧ k ≤ xs.length) xs.length ?_ ?_
 ·exact ⟨0, rfl, rfl, rfl, rfl, rfl, Nat.zero_le _⟩
 ·rintro J hJ n t h ⟨k, t0, t1, t5, rfl, rfl, hk⟩
  by_cases hlt : k < xs.length
  ·simp (disch := omega) only [t0, t1, t5, hlt, ac_.cells, ag_, go_sem, Nat.reduceEqDiff, Nat.reduceAdd, reduceCtorEq, ↓reduceIte, ar_]
   refine aa_.q (tx_ xs[k] (by have := bD_ (f := ac_.sz) (getElem_mem hlt); omega) _) ?_
   simp (disch := omega) only [go_sem]
   exact ⟨xs.length - (k + 1), by omega, hJ _ _ _ ⟨k + 1, by simp [upd, t0], by simp [upd, t1], by simp [upd], rfl, rfl, by omega⟩⟩
  ·simp (disch := omega) only [t0, t1, t5, hlt, ag_, go_sem, Nat.reduceEqDiff, reduceCtorEq, ↓reduceIte, ar_]
   exact af_ _ _
theorem tR_ (x : ad_) (l : Int) (h0 : 0 ≤ l) (h1 : l ≤ 1048576) (hw : ad_.wf x) (h : List Row) : aa_ Tryz.prog 8 [.agg (ad_.cells x), .val (.int .i64 l)] h (.val (.int .i64 (szR (ad_.sz x) l))) := by
 obtain ⟨w_Nodes, _⟩ := hw
 have hsz : ad_.sz x = (ao_ ac_.sz) x.Nodes := rfl
 refine aj_ mixed Tryz.func8 EO_ rfl rfl ?_ h
 simp (disch := omega) only [lf8, c8, ad_.cells, go_sem, Nat.reduceEqDiff, Int.reduceNeg, ↓reduceIte]
 refine aa_.call (rL_ x.Nodes (l) (by omega) (by omega) w_Nodes _) ?_
 by_cases hn_Nodes : ((ao_ ac_.sz) x.Nodes : Int) ≤ l
 case neg =>
  rw [bN_ (n := (ao_ ac_.sz) x.Nodes) (l := l) (by omega)]
  simp (disch := omega) only [ag_, go_sem, Nat.reduceEqDiff, Int.reduceNeg, ↓reduceIte]
  rw [bN_ (by omega)]; exact af_ _ _
 rw [cP_ (n := (ao_ ac_.sz) x.Nodes) (l := l) hn_Nodes]
 simp (disch := omega) only [ag_, go_sem, Nat.reduceEqDiff, Int.reduceNeg, ↓reduceIte]
 refine ⟨fun hn => absurd hn (by omega), fun _ => ?_⟩
 rw [cP_ (by omega), hsz]
 have hfin : l - (((ao_ ac_.sz) x.Nodes : Nat) : Int) = l - (ao_ ac_.sz) x.Nodes := by omega
 rw [hfin]; exact af_ _ _
theorem f4_ (x : ad_) (hb : ad_.sz x ≤ 1048576) (h : List Row) : aa_ Tryz.prog 11 [.agg (ad_.cells x)] h (.agg (ad_.cells x)) := by
 have hsz : ad_.sz x = (ao_ ac_.sz) x.Nodes := rfl
 refine aj_ mixed Tryz.func11 w8_ rfl rfl ?_ h
 simp (disch := omega) only [wf_, c11, ad_.cells, go_sem, Nat.reduceEqDiff, Nat.reduceAdd, ↓reduceIte]
 refine aa_.call (s7_ x.Nodes (by omega) _) ?_
 simp (disch := omega) only [go_sem, Nat.reduceEqDiff, ↓reduceIte, cD_]
 exact g3_ _ _ rfl
theorem f8_ (x : ad_) (hb : ad_.sz x ≤ 1048576) (h : List Row) : aa_ Tryz.prog 14 [.agg (ad_.cells x), .agg (ad_.cells x)] h (.val (.bool true)) := by
 have hsz : ad_.sz x = (ao_ ac_.sz) x.Nodes := rfl
 refine aj_ mixed Tryz.func14 Ei_ rfl rfl ?_ h
 simp (disch := omega) only [Bp_, c14, ad_.cells, go_sem, Nat.reduceEqDiff, ↓reduceIte]
 refine aa_.call (rS_ x.Nodes (by omega) _) ?_
 simp (disch := omega) only [ag_, go_sem, ↓reduceIte]
 exact af_ _ _
end Go.Proofs.YtfplhbjggecnpaaGreatDoor
