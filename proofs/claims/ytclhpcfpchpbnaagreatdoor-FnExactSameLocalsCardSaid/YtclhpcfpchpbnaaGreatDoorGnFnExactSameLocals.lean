/-
 Contracts of functions of this program, over abstract values. Conditions: as each theorem says.
-/
import Derived.Test.YtclhpcfpchpbnaaGreatDoorBase
namespace Go.Proofs.YtclhpcfpchpbnaaGreatDoor
open Go.AW
set_option linter.unusedVariables false
set_option linter.unusedSimpArgs false



def c94 : LC :=
 .seq (.ops [⟨some 2, none, .box 109 (.tmp 0)⟩, ⟨some 4, none, .mov (.const (.int .i64 0))⟩]) (.seq (.ops [⟨some 5, none, .mov (.tmp 1)⟩, ⟨some 6, none, .fieldAddr 0 (.tmp 2)⟩, ⟨some 7, none, .load none (.tmp 6)⟩, ⟨some 8,
 none, .lenStr (.tmp 7)⟩, ⟨some 9, none, .bin .sub false (.tmp 5) (.tmp 8)⟩, ⟨some 1, none, .mov (.tmp 9)⟩]) (.seq (.seq (.ops [⟨some 10, none, .mov (.tmp 1)⟩, ⟨some 11, none, .bin .lss false (.tmp 10) (.const (.int .i64
 0))⟩]) (.cond (.tmp 11) (.seq (.ops [⟨some 4, none, .mov (.const (.int .i64 (-1)))⟩]) (.ret)) (.skip))) (.seq (.ops [⟨some 12, none, .mov (.tmp 1)⟩, ⟨some 4, none, .mov (.tmp 12)⟩]) (.ret))))
def lf94 : LF := { np := 2, N := 13, body := c94, res := [.tmp 4] }
theorem low94 : LowF Tryz.prog Tryz.f94 lf94 := LowF.mk' (by kernel_rfl) (by kernel_rfl) (by kernel_rfl) (by decide)

def c101 : LC :=
 .seq (.ops [⟨some 1, none, .box 109 (.tmp 0)⟩, ⟨some 2, none, .alloc 77 (.agg #[.string ⟨#[]⟩, .int .i64 0])⟩]) (.seq (.ops [⟨some 3, none, .alloc 77 (.agg #[.string ⟨#[]⟩, .int .i64 0])⟩]) (.seq (.ops [⟨some 4, none,
 .fieldAddr 0 (.tmp 1)⟩, ⟨some 5, none, .load none (.tmp 4)⟩, ⟨some 6, none, .fieldAddr 0 (.tmp 3)⟩, ⟨none, none, .store 1 (.tmp 6) (.tmp 5)⟩]) (.seq (.ops [⟨some 7, none, .fieldAddr 1 (.tmp 1)⟩, ⟨some 8, none, .load none
 (.tmp 7)⟩, ⟨some 9, none, .fieldAddr 1 (.tmp 3)⟩, ⟨none, none, .store 1 (.tmp 9) (.tmp 8)⟩]) (.seq (.ops [⟨some 10, none, .load (some 2) (.tmp 3)⟩, ⟨none, none, .store 2 (.tmp 2) (.tmp 10)⟩]) (.ret)))))
def lf101 : LF := { np := 1, N := 11, body := c101, res := [.cell 2 (some 2)] }
theorem low101 : LowF Tryz.prog Tryz.f101 lf101 := LowF.mk' (by kernel_rfl) (by kernel_rfl) (by kernel_rfl) (by decide)

def c112 : LC :=
 .seq (.ops [⟨some 2, none, .box 77 (.tmp 0)⟩, ⟨some 3, none, .box 77 (.tmp 1)⟩, ⟨some 4, none, .mov (.const (.bool false))⟩]) (.seq (.seq (.ops [⟨some 5, none, .fieldAddr 0 (.tmp 2)⟩, ⟨some 6, none, .load none (.tmp 5)⟩,
 ⟨some 7, none, .fieldAddr 0 (.tmp 3)⟩, ⟨some 8, none, .load none (.tmp 7)⟩, ⟨some 9, none, .bin .neq false (.tmp 6) (.tmp 8)⟩]) (.cond (.tmp 9) (.seq (.ops [⟨some 4, none, .mov (.const (.bool false))⟩]) (.ret)) (.skip)))
 (.seq (.seq (.ops [⟨some 10, none, .fieldAddr 1 (.tmp 2)⟩, ⟨some 11, none, .load none (.tmp 10)⟩, ⟨some 12, none, .fieldAddr 1 (.tmp 3)⟩, ⟨some 13, none, .load none (.tmp 12)⟩, ⟨some 14, none, .bin .neq false (.tmp 11)
 (.tmp 13)⟩]) (.cond (.tmp 14) (.seq (.ops [⟨some 4, none, .mov (.const (.bool false))⟩]) (.ret)) (.skip))) (.seq (.ops [⟨some 4, none, .mov (.const (.bool true))⟩]) (.ret))))
def lf112 : LF := { np := 2, N := 15, body := c112, res := [.tmp 4] }
theorem low112 : LowF Tryz.prog Tryz.f112 lf112 := LowF.mk' (by kernel_rfl) (by kernel_rfl) (by kernel_rfl) (by decide)

def c43 : LC :=
 .seq (.ops [⟨some 4, none, .mov (.const (.int .i64 0))⟩]) (.seq (.ops [⟨some 6, none, .mov (.tmp 1)⟩, ⟨some 7, none, .mov (.tmp 0)⟩, ⟨some 8, none, .lenSl (.tmp 7)⟩, ⟨some 9, none, .bin .sub false (.tmp 6) (.tmp 8)⟩,
 ⟨some 1, none, .mov (.tmp 9)⟩]) (.seq (.seq (.ops [⟨some 10, none, .mov (.tmp 1)⟩, ⟨some 11, none, .bin .lss false (.tmp 10) (.const (.int .i64 0))⟩]) (.cond (.tmp 11) (.seq (.ops [⟨some 4, none, .mov (.const (.int .i64
 (-1)))⟩]) (.ret)) (.skip))) (.seq (.seq (.ops [⟨some 5, none, .mov (.const (.int .i64 0))⟩]) (.block 0 (.loop (.seq (.seq (.ops [⟨some 12, none, .mov (.tmp 5)⟩, ⟨some 13, none, .mov (.tmp 0)⟩, ⟨some 14, none, .lenSl (.tmp
 13)⟩, ⟨some 15, none, .bin .lss false (.tmp 12) (.tmp 14)⟩]) (.cond (.tmp 15) (.skip) (.exit 0))) (.seq (.block 1 (.seq (.ops [⟨some 18, none, .mov (.tmp 0)⟩, ⟨some 19, none, .mov (.tmp 5)⟩, ⟨some 20, none, .indexAddr 2
 (.tmp 18) (.tmp 19)⟩, ⟨some 21, none, .load (some 2) (.tmp 20)⟩, ⟨some 22, none, .mov (.tmp 1)⟩, ⟨some 23, none, .call 94 [.tmp 21, .tmp 22]⟩, ⟨some 1, none, .mov (.tmp 23)⟩]) (.seq (.ops [⟨some 24, none, .mov (.tmp 1)⟩,
 ⟨some 25, none, .bin .lss false (.tmp 24) (.const (.int .i64 0))⟩]) (.cond (.tmp 25) (.seq (.ops [⟨some 4, none, .mov (.const (.int .i64 (-1)))⟩]) (.ret)) (.skip))))) (.ops [⟨some 16, none, .mov (.tmp 5)⟩, ⟨some 17, none,
 .bin .add false (.tmp 16) (.const (.int .i64 1))⟩, ⟨some 5, none, .mov (.tmp 17)⟩])))))) (.seq (.ops [⟨some 26, none, .mov (.tmp 1)⟩, ⟨some 4, none, .mov (.tmp 26)⟩]) (.ret)))))
def lf43 : LF := { np := 2, N := 27, body := c43, res := [.tmp 4] }
theorem low43 : LowF Tryz.prog Tryz.f43 lf43 := LowF.mk' (by kernel_rfl) (by kernel_rfl) (by kernel_rfl) (by decide)

def c47 : LC :=
 .seq (.ops [⟨some 2, none, .mov (.const (.slice none 0 0))⟩]) (.seq (.ops [⟨some 5, none, .mov (.tmp 0)⟩, ⟨some 6, none, .lenSl (.tmp 5)⟩, ⟨some 7, none, .mkSlice 77 2 24 (.agg #[.string ⟨#[]⟩, .int .i64 0]) (.tmp 6)
 (.tmp 6)⟩, ⟨some 3, none, .mov (.tmp 7)⟩]) (.seq (.seq (.ops [⟨some 4, none, .mov (.const (.int .i64 0))⟩]) (.block 0 (.loop (.seq (.seq (.ops [⟨some 8, none, .mov (.tmp 4)⟩, ⟨some 9, none, .mov (.tmp 0)⟩, ⟨some 10, none,
 .lenSl (.tmp 9)⟩, ⟨some 11, none, .bin .lss false (.tmp 8) (.tmp 10)⟩]) (.cond (.tmp 11) (.skip) (.exit 0))) (.seq (.block 1 (.ops [⟨some 14, none, .mov (.tmp 3)⟩, ⟨some 15, none, .mov (.tmp 4)⟩, ⟨some 16, none, .mov
 (.tmp 0)⟩, ⟨some 17, none, .mov (.tmp 4)⟩, ⟨some 18, none, .indexAddr 2 (.tmp 16) (.tmp 17)⟩, ⟨some 19, none, .load (some 2) (.tmp 18)⟩, ⟨some 20, none, .call 101 [.tmp 19]⟩, ⟨some 21, none, .indexAddr 2 (.tmp 14) (.tmp
 15)⟩, ⟨none, none, .store 2 (.tmp 21) (.tmp 20)⟩])) (.ops [⟨some 12, none, .mov (.tmp 4)⟩, ⟨some 13, none, .bin .add false (.tmp 12) (.const (.int .i64 1))⟩, ⟨some 4, none, .mov (.tmp 13)⟩])))))) (.seq (.ops [⟨some 22,
 none, .mov (.tmp 3)⟩, ⟨some 2, none, .mov (.tmp 22)⟩]) (.ret))))
def lf47 : LF := { np := 1, N := 23, body := c47, res := [.tmp 2] }
theorem low47 : LowF Tryz.prog Tryz.f47 lf47 := LowF.mk' (by kernel_rfl) (by kernel_rfl) (by kernel_rfl) (by decide)

def c53 : LC :=
 .seq (.ops [⟨some 4, none, .mov (.const (.bool false))⟩]) (.seq (.seq (.ops [⟨some 6, none, .mov (.tmp 0)⟩, ⟨some 7, none, .lenSl (.tmp 6)⟩, ⟨some 8, none, .mov (.tmp 1)⟩, ⟨some 9, none, .lenSl (.tmp 8)⟩, ⟨some 10, none,
 .bin .neq false (.tmp 7) (.tmp 9)⟩]) (.cond (.tmp 10) (.seq (.ops [⟨some 4, none, .mov (.const (.bool false))⟩]) (.ret)) (.skip))) (.seq (.seq (.ops [⟨some 5, none, .mov (.const (.int .i64 0))⟩]) (.block 0 (.loop (.seq
 (.seq (.ops [⟨some 11, none, .mov (.tmp 5)⟩, ⟨some 12, none, .mov (.tmp 0)⟩, ⟨some 13, none, .lenSl (.tmp 12)⟩, ⟨some 14, none, .bin .lss false (.tmp 11) (.tmp 13)⟩]) (.cond (.tmp 14) (.skip) (.exit 0))) (.seq (.block 1
 (.seq (.dops [⟨some 17, none, .mov (.tmp 0)⟩, ⟨some 18, none, .mov (.tmp 5)⟩, ⟨some 19, none, .indexAddr 2 (.tmp 17) (.tmp 18)⟩, ⟨some 20, none, .load (some 2) (.tmp 19)⟩, ⟨some 21, none, .mov (.tmp 1)⟩, ⟨some 22, none,
 .mov (.tmp 5)⟩, ⟨some 23, none, .indexAddr 2 (.tmp 21) (.tmp 22)⟩, ⟨some 24, none, .load (some 2) (.tmp 23)⟩, ⟨some 25, none, .call 112 [.tmp 20, .tmp 24]⟩, ⟨some 26, none, .un .not (.tmp 25)⟩]) (.cond (.tmp 26) (.seq
 (.ops [⟨some 4, none, .mov (.const (.bool false))⟩]) (.ret)) (.skip)))) (.ops [⟨some 15, none, .mov (.tmp 5)⟩, ⟨some 16, none, .bin .add false (.tmp 15) (.const (.int .i64 1))⟩, ⟨some 5, none, .mov (.tmp 16)⟩])))))) (.seq
 (.ops [⟨some 4, none, .mov (.const (.bool true))⟩]) (.ret))))
def lf53 : LF := { np := 2, N := 27, body := c53, res := [.tmp 4] }
theorem low53 : LowF Tryz.prog Tryz.f53 lf53 := LowF.mk' (by kernel_rfl) (by kernel_rfl) (by kernel_rfl) (by decide)

def c17 : LC :=
 .seq (.ops [⟨some 4, none, .mov (.const (.int .i64 0))⟩]) (.seq (.ops [⟨some 6, none, .mov (.tmp 1)⟩, ⟨some 7, none, .mov (.tmp 0)⟩, ⟨some 8, none, .lenSl (.tmp 7)⟩, ⟨some 9, none, .bin .sub false (.tmp 6) (.tmp 8)⟩,
 ⟨some 1, none, .mov (.tmp 9)⟩]) (.seq (.seq (.ops [⟨some 10, none, .mov (.tmp 1)⟩, ⟨some 11, none, .bin .lss false (.tmp 10) (.const (.int .i64 0))⟩]) (.cond (.tmp 11) (.seq (.ops [⟨some 4, none, .mov (.const (.int .i64
 (-1)))⟩]) (.ret)) (.skip))) (.seq (.seq (.ops [⟨some 5, none, .mov (.const (.int .i64 0))⟩]) (.block 0 (.loop (.seq (.seq (.ops [⟨some 12, none, .mov (.tmp 5)⟩, ⟨some 13, none, .mov (.tmp 0)⟩, ⟨some 14, none, .lenSl (.tmp
 13)⟩, ⟨some 15, none, .bin .lss false (.tmp 12) (.tmp 14)⟩]) (.cond (.tmp 15) (.skip) (.exit 0))) (.seq (.block 1 (.seq (.ops [⟨some 18, none, .mov (.tmp 1)⟩, ⟨some 19, none, .mov (.tmp 0)⟩, ⟨some 20, none, .mov (.tmp
 5)⟩, ⟨some 21, none, .indexAddr 1 (.tmp 19) (.tmp 20)⟩, ⟨some 22, none, .load none (.tmp 21)⟩, ⟨some 23, none, .lenStr (.tmp 22)⟩, ⟨some 24, none, .bin .sub false (.tmp 18) (.tmp 23)⟩, ⟨some 1, none, .mov (.tmp 24)⟩])
 (.seq (.ops [⟨some 25, none, .mov (.tmp 1)⟩, ⟨some 26, none, .bin .lss false (.tmp 25) (.const (.int .i64 0))⟩]) (.cond (.tmp 26) (.seq (.ops [⟨some 4, none, .mov (.const (.int .i64 (-1)))⟩]) (.ret)) (.skip))))) (.ops
 [⟨some 16, none, .mov (.tmp 5)⟩, ⟨some 17, none, .bin .add false (.tmp 16) (.const (.int .i64 1))⟩, ⟨some 5, none, .mov (.tmp 17)⟩])))))) (.seq (.ops [⟨some 27, none, .mov (.tmp 1)⟩, ⟨some 4, none, .mov (.tmp 27)⟩])
 (.ret)))))
def lf17 : LF := { np := 2, N := 28, body := c17, res := [.tmp 4] }
theorem low17 : LowF Tryz.prog Tryz.f17 lf17 := LowF.mk' (by kernel_rfl) (by kernel_rfl) (by kernel_rfl) (by decide)

def c19 : LC :=
 .seq (.ops [⟨some 2, none, .mov (.const (.slice none 0 0))⟩]) (.seq (.ops [⟨some 5, none, .mov (.tmp 0)⟩, ⟨some 6, none, .lenSl (.tmp 5)⟩, ⟨some 7, none, .mkSlice 9 1 16 (.string ⟨#[]⟩) (.tmp 6) (.tmp 6)⟩, ⟨some 3, none,
 .mov (.tmp 7)⟩]) (.seq (.seq (.ops [⟨some 4, none, .mov (.const (.int .i64 0))⟩]) (.block 0 (.loop (.seq (.seq (.ops [⟨some 8, none, .mov (.tmp 4)⟩, ⟨some 9, none, .mov (.tmp 0)⟩, ⟨some 10, none, .lenSl (.tmp 9)⟩, ⟨some
 11, none, .bin .lss false (.tmp 8) (.tmp 10)⟩]) (.cond (.tmp 11) (.skip) (.exit 0))) (.seq (.block 1 (.ops [⟨some 14, none, .mov (.tmp 3)⟩, ⟨some 15, none, .mov (.tmp 4)⟩, ⟨some 16, none, .mov (.tmp 0)⟩, ⟨some 17, none,
 .mov (.tmp 4)⟩, ⟨some 18, none, .indexAddr 1 (.tmp 16) (.tmp 17)⟩, ⟨some 19, none, .load none (.tmp 18)⟩, ⟨some 20, none, .indexAddr 1 (.tmp 14) (.tmp 15)⟩, ⟨none, none, .store 1 (.tmp 20) (.tmp 19)⟩])) (.ops [⟨some 12,
 none, .mov (.tmp 4)⟩, ⟨some 13, none, .bin .add false (.tmp 12) (.const (.int .i64 1))⟩, ⟨some 4, none, .mov (.tmp 13)⟩])))))) (.seq (.ops [⟨some 21, none, .mov (.tmp 3)⟩, ⟨some 2, none, .mov (.tmp 21)⟩]) (.ret))))
def lf19 : LF := { np := 1, N := 22, body := c19, res := [.tmp 2] }
theorem low19 : LowF Tryz.prog Tryz.f19 lf19 := LowF.mk' (by kernel_rfl) (by kernel_rfl) (by kernel_rfl) (by decide)

def c21 : LC :=
 .seq (.ops [⟨some 4, none, .mov (.const (.bool false))⟩]) (.seq (.seq (.ops [⟨some 6, none, .mov (.tmp 0)⟩, ⟨some 7, none, .lenSl (.tmp 6)⟩, ⟨some 8, none, .mov (.tmp 1)⟩, ⟨some 9, none, .lenSl (.tmp 8)⟩, ⟨some 10, none,
 .bin .neq false (.tmp 7) (.tmp 9)⟩]) (.cond (.tmp 10) (.seq (.ops [⟨some 4, none, .mov (.const (.bool false))⟩]) (.ret)) (.skip))) (.seq (.seq (.ops [⟨some 5, none, .mov (.const (.int .i64 0))⟩]) (.block 0 (.loop (.seq
 (.seq (.ops [⟨some 11, none, .mov (.tmp 5)⟩, ⟨some 12, none, .mov (.tmp 0)⟩, ⟨some 13, none, .lenSl (.tmp 12)⟩, ⟨some 14, none, .bin .lss false (.tmp 11) (.tmp 13)⟩]) (.cond (.tmp 14) (.skip) (.exit 0))) (.seq (.block 1
 (.seq (.dops [⟨some 17, none, .mov (.tmp 0)⟩, ⟨some 18, none, .mov (.tmp 5)⟩, ⟨some 19, none, .indexAddr 1 (.tmp 17) (.tmp 18)⟩, ⟨some 20, none, .load none (.tmp 19)⟩, ⟨some 21, none, .mov (.tmp 1)⟩, ⟨some 22, none, .mov
 (.tmp 5)⟩, ⟨some 23, none, .indexAddr 1 (.tmp 21) (.tmp 22)⟩, ⟨some 24, none, .load none (.tmp 23)⟩, ⟨some 25, none, .bin .neq false (.tmp 20) (.tmp 24)⟩]) (.cond (.tmp 25) (.seq (.ops [⟨some 4, none, .mov (.const (.bool
 false))⟩]) (.ret)) (.skip)))) (.ops [⟨some 15, none, .mov (.tmp 5)⟩, ⟨some 16, none, .bin .add false (.tmp 15) (.const (.int .i64 1))⟩, ⟨some 5, none, .mov (.tmp 16)⟩])))))) (.seq (.ops [⟨some 4, none, .mov (.const (.bool
 true))⟩]) (.ret))))
def lf21 : LF := { np := 2, N := 26, body := c21, res := [.tmp 4] }
theorem low21 : LowF Tryz.prog Tryz.f21 lf21 := LowF.mk' (by kernel_rfl) (by kernel_rfl) (by kernel_rfl) (by decide)

def c140 : LC :=
 .seq (.ops [⟨some 2, none, .box 149 (.tmp 0)⟩, ⟨some 4, none, .mov (.const (.int .i64 0))⟩]) (.seq (.ops [⟨some 5, none, .mov (.tmp 1)⟩, ⟨some 6, none, .fieldAddr 0 (.tmp 2)⟩, ⟨some 7, none, .load none (.tmp 6)⟩, ⟨some 8,
 none, .lenStr (.tmp 7)⟩, ⟨some 9, none, .bin .sub false (.tmp 5) (.tmp 8)⟩, ⟨some 1, none, .mov (.tmp 9)⟩]) (.seq (.seq (.ops [⟨some 10, none, .mov (.tmp 1)⟩, ⟨some 11, none, .bin .lss false (.tmp 10) (.const (.int .i64
 0))⟩]) (.cond (.tmp 11) (.seq (.ops [⟨some 4, none, .mov (.const (.int .i64 (-1)))⟩]) (.ret)) (.skip))) (.seq (.ops [⟨some 12, none, .fieldAddr 1 (.tmp 2)⟩, ⟨some 13, none, .load none (.tmp 12)⟩, ⟨some 14, none, .mov
 (.tmp 1)⟩, ⟨some 15, none, .call 17 [.tmp 13, .tmp 14]⟩, ⟨some 1, none, .mov (.tmp 15)⟩]) (.seq (.seq (.ops [⟨some 16, none, .mov (.tmp 1)⟩, ⟨some 17, none, .bin .lss false (.tmp 16) (.const (.int .i64 0))⟩]) (.cond (.tmp
 17) (.seq (.ops [⟨some 4, none, .mov (.const (.int .i64 (-1)))⟩]) (.ret)) (.skip))) (.seq (.ops [⟨some 18, none, .mov (.tmp 1)⟩, ⟨some 19, none, .fieldAddr 2 (.tmp 2)⟩, ⟨some 20, none, .load none (.tmp 19)⟩, ⟨some 21,
 none, .lenStr (.tmp 20)⟩, ⟨some 22, none, .bin .sub false (.tmp 18) (.tmp 21)⟩, ⟨some 1, none, .mov (.tmp 22)⟩]) (.seq (.seq (.ops [⟨some 23, none, .mov (.tmp 1)⟩, ⟨some 24, none, .bin .lss false (.tmp 23) (.const (.int
 .i64 0))⟩]) (.cond (.tmp 24) (.seq (.ops [⟨some 4, none, .mov (.const (.int .i64 (-1)))⟩]) (.ret)) (.skip))) (.seq (.ops [⟨some 25, none, .mov (.tmp 1)⟩, ⟨some 4, none, .mov (.tmp 25)⟩]) (.ret))))))))
def lf140 : LF := { np := 2, N := 26, body := c140, res := [.tmp 4] }
theorem low140 : LowF Tryz.prog Tryz.f140 lf140 := LowF.mk' (by kernel_rfl) (by kernel_rfl) (by kernel_rfl) (by decide)

def c154 : LC :=
 .seq (.ops [⟨some 1, none, .box 149 (.tmp 0)⟩, ⟨some 2, none, .alloc 137 (.agg #[.string ⟨#[]⟩, .slice none 0 0, .string ⟨#[]⟩])⟩]) (.seq (.ops [⟨some 3, none, .alloc 137 (.agg #[.string ⟨#[]⟩, .slice none 0 0, .string
 ⟨#[]⟩])⟩]) (.seq (.ops [⟨some 4, none, .fieldAddr 0 (.tmp 1)⟩, ⟨some 5, none, .load none (.tmp 4)⟩, ⟨some 6, none, .fieldAddr 0 (.tmp 3)⟩, ⟨none, none, .store 1 (.tmp 6) (.tmp 5)⟩]) (.seq (.ops [⟨some 7, none, .fieldAddr
 1 (.tmp 1)⟩, ⟨some 8, none, .load none (.tmp 7)⟩, ⟨some 9, none, .call 19 [.tmp 8]⟩, ⟨some 10, none, .fieldAddr 1 (.tmp 3)⟩, ⟨none, none, .store 1 (.tmp 10) (.tmp 9)⟩]) (.seq (.ops [⟨some 11, none, .fieldAddr 2 (.tmp 1)⟩,
 ⟨some 12, none, .load none (.tmp 11)⟩, ⟨some 13, none, .fieldAddr 2 (.tmp 3)⟩, ⟨none, none, .store 1 (.tmp 13) (.tmp 12)⟩]) (.seq (.ops [⟨some 14, none, .load (some 3) (.tmp 3)⟩, ⟨none, none, .store 3 (.tmp 2) (.tmp
 14)⟩]) (.ret))))))
def lf154 : LF := { np := 1, N := 15, body := c154, res := [.cell 2 (some 3)] }
theorem low154 : LowF Tryz.prog Tryz.f154 lf154 := LowF.mk' (by kernel_rfl) (by kernel_rfl) (by kernel_rfl) (by decide)

def c129 : LC :=
 .seq (.ops [⟨some 2, none, .box 137 (.tmp 0)⟩, ⟨some 3, none, .box 137 (.tmp 1)⟩, ⟨some 4, none, .mov (.const (.bool false))⟩]) (.seq (.seq (.ops [⟨some 5, none, .fieldAddr 0 (.tmp 2)⟩, ⟨some 6, none, .load none (.tmp
 5)⟩, ⟨some 7, none, .fieldAddr 0 (.tmp 3)⟩, ⟨some 8, none, .load none (.tmp 7)⟩, ⟨some 9, none, .bin .neq false (.tmp 6) (.tmp 8)⟩]) (.cond (.tmp 9) (.seq (.ops [⟨some 4, none, .mov (.const (.bool false))⟩]) (.ret))
 (.skip))) (.seq (.seq (.ops [⟨some 10, none, .fieldAddr 1 (.tmp 2)⟩, ⟨some 11, none, .load none (.tmp 10)⟩, ⟨some 12, none, .fieldAddr 1 (.tmp 3)⟩, ⟨some 13, none, .load none (.tmp 12)⟩, ⟨some 14, none, .call 21 [.tmp 11,
 .tmp 13]⟩, ⟨some 15, none, .un .not (.tmp 14)⟩]) (.cond (.tmp 15) (.seq (.ops [⟨some 4, none, .mov (.const (.bool false))⟩]) (.ret)) (.skip))) (.seq (.seq (.ops [⟨some 16, none, .fieldAddr 2 (.tmp 2)⟩, ⟨some 17, none,
 .load none (.tmp 16)⟩, ⟨some 18, none, .fieldAddr 2 (.tmp 3)⟩, ⟨some 19, none, .load none (.tmp 18)⟩, ⟨some 20, none, .bin .neq false (.tmp 17) (.tmp 19)⟩]) (.cond (.tmp 20) (.seq (.ops [⟨some 4, none, .mov (.const (.bool
 false))⟩]) (.ret)) (.skip))) (.seq (.ops [⟨some 4, none, .mov (.const (.bool true))⟩]) (.ret)))))
def lf129 : LF := { np := 2, N := 21, body := c129, res := [.tmp 4] }
theorem low129 : LowF Tryz.prog Tryz.f129 lf129 := LowF.mk' (by kernel_rfl) (by kernel_rfl) (by kernel_rfl) (by decide)

def c83 : LC :=
 .seq (.ops [⟨some 4, none, .mov (.const (.int .i64 0))⟩]) (.seq (.ops [⟨some 6, none, .mov (.tmp 1)⟩, ⟨some 7, none, .mov (.tmp 0)⟩, ⟨some 8, none, .lenSl (.tmp 7)⟩, ⟨some 9, none, .bin .sub false (.tmp 6) (.tmp 8)⟩,
 ⟨some 1, none, .mov (.tmp 9)⟩]) (.seq (.seq (.ops [⟨some 10, none, .mov (.tmp 1)⟩, ⟨some 11, none, .bin .lss false (.tmp 10) (.const (.int .i64 0))⟩]) (.cond (.tmp 11) (.seq (.ops [⟨some 4, none, .mov (.const (.int .i64
 (-1)))⟩]) (.ret)) (.skip))) (.seq (.seq (.ops [⟨some 5, none, .mov (.const (.int .i64 0))⟩]) (.block 0 (.loop (.seq (.seq (.ops [⟨some 12, none, .mov (.tmp 5)⟩, ⟨some 13, none, .mov (.tmp 0)⟩, ⟨some 14, none, .lenSl (.tmp
 13)⟩, ⟨some 15, none, .bin .lss false (.tmp 12) (.tmp 14)⟩]) (.cond (.tmp 15) (.skip) (.exit 0))) (.seq (.block 1 (.seq (.ops [⟨some 18, none, .mov (.tmp 0)⟩, ⟨some 19, none, .mov (.tmp 5)⟩, ⟨some 20, none, .indexAddr 3
 (.tmp 18) (.tmp 19)⟩, ⟨some 21, none, .load (some 3) (.tmp 20)⟩, ⟨some 22, none, .mov (.tmp 1)⟩, ⟨some 23, none, .call 140 [.tmp 21, .tmp 22]⟩, ⟨some 1, none, .mov (.tmp 23)⟩]) (.seq (.ops [⟨some 24, none, .mov (.tmp 1)⟩,
 ⟨some 25, none, .bin .lss false (.tmp 24) (.const (.int .i64 0))⟩]) (.cond (.tmp 25) (.seq (.ops [⟨some 4, none, .mov (.const (.int .i64 (-1)))⟩]) (.ret)) (.skip))))) (.ops [⟨some 16, none, .mov (.tmp 5)⟩, ⟨some 17, none,
 .bin .add false (.tmp 16) (.const (.int .i64 1))⟩, ⟨some 5, none, .mov (.tmp 17)⟩])))))) (.seq (.ops [⟨some 26, none, .mov (.tmp 1)⟩, ⟨some 4, none, .mov (.tmp 26)⟩]) (.ret)))))
def lf83 : LF := { np := 2, N := 27, body := c83, res := [.tmp 4] }
theorem low83 : LowF Tryz.prog Tryz.f83 lf83 := LowF.mk' (by kernel_rfl) (by kernel_rfl) (by kernel_rfl) (by decide)

def c88 : LC :=
 .seq (.ops [⟨some 2, none, .mov (.const (.slice none 0 0))⟩]) (.seq (.ops [⟨some 5, none, .mov (.tmp 0)⟩, ⟨some 6, none, .lenSl (.tmp 5)⟩, ⟨some 7, none, .mkSlice 137 3 56 (.agg #[.string ⟨#[]⟩, .slice none 0 0, .string
 ⟨#[]⟩]) (.tmp 6) (.tmp 6)⟩, ⟨some 3, none, .mov (.tmp 7)⟩]) (.seq (.seq (.ops [⟨some 4, none, .mov (.const (.int .i64 0))⟩]) (.block 0 (.loop (.seq (.seq (.ops [⟨some 8, none, .mov (.tmp 4)⟩, ⟨some 9, none, .mov (.tmp
 0)⟩, ⟨some 10, none, .lenSl (.tmp 9)⟩, ⟨some 11, none, .bin .lss false (.tmp 8) (.tmp 10)⟩]) (.cond (.tmp 11) (.skip) (.exit 0))) (.seq (.block 1 (.ops [⟨some 14, none, .mov (.tmp 3)⟩, ⟨some 15, none, .mov (.tmp 4)⟩,
 ⟨some 16, none, .mov (.tmp 0)⟩, ⟨some 17, none, .mov (.tmp 4)⟩, ⟨some 18, none, .indexAddr 3 (.tmp 16) (.tmp 17)⟩, ⟨some 19, none, .load (some 3) (.tmp 18)⟩, ⟨some 20, none, .call 154 [.tmp 19]⟩, ⟨some 21, none,
 .indexAddr 3 (.tmp 14) (.tmp 15)⟩, ⟨none, none, .store 3 (.tmp 21) (.tmp 20)⟩])) (.ops [⟨some 12, none, .mov (.tmp 4)⟩, ⟨some 13, none, .bin .add false (.tmp 12) (.const (.int .i64 1))⟩, ⟨some 4, none, .mov (.tmp
 13)⟩])))))) (.seq (.ops [⟨some 22, none, .mov (.tmp 3)⟩, ⟨some 2, none, .mov (.tmp 22)⟩]) (.ret))))
def lf88 : LF := { np := 1, N := 23, body := c88, res := [.tmp 2] }
theorem low88 : LowF Tryz.prog Tryz.f88 lf88 := LowF.mk' (by kernel_rfl) (by kernel_rfl) (by kernel_rfl) (by decide)

def c64 : LC :=
 .seq (.ops [⟨some 4, none, .mov (.const (.bool false))⟩]) (.seq (.seq (.ops [⟨some 6, none, .mov (.tmp 0)⟩, ⟨some 7, none, .lenSl (.tmp 6)⟩, ⟨some 8, none, .mov (.tmp 1)⟩, ⟨some 9, none, .lenSl (.tmp 8)⟩, ⟨some 10, none,
 .bin .neq false (.tmp 7) (.tmp 9)⟩]) (.cond (.tmp 10) (.seq (.ops [⟨some 4, none, .mov (.const (.bool false))⟩]) (.ret)) (.skip))) (.seq (.seq (.ops [⟨some 5, none, .mov (.const (.int .i64 0))⟩]) (.block 0 (.loop (.seq
 (.seq (.ops [⟨some 11, none, .mov (.tmp 5)⟩, ⟨some 12, none, .mov (.tmp 0)⟩, ⟨some 13, none, .lenSl (.tmp 12)⟩, ⟨some 14, none, .bin .lss false (.tmp 11) (.tmp 13)⟩]) (.cond (.tmp 14) (.skip) (.exit 0))) (.seq (.block 1
 (.seq (.dops [⟨some 17, none, .mov (.tmp 0)⟩, ⟨some 18, none, .mov (.tmp 5)⟩, ⟨some 19, none, .indexAddr 3 (.tmp 17) (.tmp 18)⟩, ⟨some 20, none, .load (some 3) (.tmp 19)⟩, ⟨some 21, none, .mov (.tmp 1)⟩, ⟨some 22, none,
 .mov (.tmp 5)⟩, ⟨some 23, none, .indexAddr 3 (.tmp 21) (.tmp 22)⟩, ⟨some 24, none, .load (some 3) (.tmp 23)⟩, ⟨some 25, none, .call 129 [.tmp 20, .tmp 24]⟩, ⟨some 26, none, .un .not (.tmp 25)⟩]) (.cond (.tmp 26) (.seq
 (.ops [⟨some 4, none, .mov (.const (.bool false))⟩]) (.ret)) (.skip)))) (.ops [⟨some 15, none, .mov (.tmp 5)⟩, ⟨some 16, none, .bin .add false (.tmp 15) (.const (.int .i64 1))⟩, ⟨some 5, none, .mov (.tmp 16)⟩])))))) (.seq
 (.ops [⟨some 4, none, .mov (.const (.bool true))⟩]) (.ret))))
def lf64 : LF := { np := 2, N := 27, body := c64, res := [.tmp 4] }
theorem low64 : LowF Tryz.prog Tryz.f64 lf64 := LowF.mk' (by kernel_rfl) (by kernel_rfl) (by kernel_rfl) (by decide)

def c34 : LC :=
 .seq (.ops [⟨some 2, none, .box 57 (.tmp 0)⟩, ⟨some 4, none, .mov (.const (.int .i64 0))⟩]) (.seq (.ops [⟨some 5, none, .fieldAddr 0 (.tmp 2)⟩, ⟨some 6, none, .load none (.tmp 5)⟩, ⟨some 7, none, .mov (.tmp 1)⟩, ⟨some 8,
 none, .call 83 [.tmp 6, .tmp 7]⟩, ⟨some 1, none, .mov (.tmp 8)⟩]) (.seq (.seq (.ops [⟨some 9, none, .mov (.tmp 1)⟩, ⟨some 10, none, .bin .lss false (.tmp 9) (.const (.int .i64 0))⟩]) (.cond (.tmp 10) (.seq (.ops [⟨some 4,
 none, .mov (.const (.int .i64 (-1)))⟩]) (.ret)) (.skip))) (.seq (.ops [⟨some 11, none, .mov (.tmp 1)⟩, ⟨some 4, none, .mov (.tmp 11)⟩]) (.ret))))
def lf34 : LF := { np := 2, N := 12, body := c34, res := [.tmp 4] }
theorem low34 : LowF Tryz.prog Tryz.f34 lf34 := LowF.mk' (by kernel_rfl) (by kernel_rfl) (by kernel_rfl) (by decide)

def c37 : LC :=
 .seq (.ops [⟨some 1, none, .box 57 (.tmp 0)⟩, ⟨some 2, none, .alloc 47 (.agg #[.slice none 0 0])⟩]) (.seq (.ops [⟨some 3, none, .alloc 47 (.agg #[.slice none 0 0])⟩]) (.seq (.ops [⟨some 4, none, .fieldAddr 0 (.tmp 1)⟩,
 ⟨some 5, none, .load none (.tmp 4)⟩, ⟨some 6, none, .call 88 [.tmp 5]⟩, ⟨some 7, none, .fieldAddr 0 (.tmp 3)⟩, ⟨none, none, .store 1 (.tmp 7) (.tmp 6)⟩]) (.seq (.ops [⟨some 8, none, .load (some 1) (.tmp 3)⟩, ⟨none, none,
 .store 1 (.tmp 2) (.tmp 8)⟩]) (.ret))))
def lf37 : LF := { np := 1, N := 9, body := c37, res := [.cell 2 (some 1)] }
theorem low37 : LowF Tryz.prog Tryz.f37 lf37 := LowF.mk' (by kernel_rfl) (by kernel_rfl) (by kernel_rfl) (by decide)

def c24 : LC :=
 .seq (.ops [⟨some 2, none, .box 47 (.tmp 0)⟩, ⟨some 3, none, .box 47 (.tmp 1)⟩, ⟨some 4, none, .mov (.const (.bool false))⟩]) (.seq (.seq (.ops [⟨some 5, none, .fieldAddr 0 (.tmp 2)⟩, ⟨some 6, none, .load none (.tmp 5)⟩,
 ⟨some 7, none, .fieldAddr 0 (.tmp 3)⟩, ⟨some 8, none, .load none (.tmp 7)⟩, ⟨some 9, none, .call 64 [.tmp 6, .tmp 8]⟩, ⟨some 10, none, .un .not (.tmp 9)⟩]) (.cond (.tmp 10) (.seq (.ops [⟨some 4, none, .mov (.const (.bool
 false))⟩]) (.ret)) (.skip))) (.seq (.ops [⟨some 4, none, .mov (.const (.bool true))⟩]) (.ret)))
def lf24 : LF := { np := 2, N := 11, body := c24, res := [.tmp 4] }
theorem low24 : LowF Tryz.prog Tryz.f24 lf24 := LowF.mk' (by kernel_rfl) (by kernel_rfl) (by kernel_rfl) (by decide)

def c95 : LC :=
 .seq (.ops [⟨some 2, none, .box 112 (.tmp 0)⟩, ⟨some 4, none, .mov (.const (.int .i64 0))⟩]) (.seq (.ops [⟨some 5, none, .fieldAddr 1 (.tmp 2)⟩, ⟨some 6, none, .load (some 1) (.tmp 5)⟩, ⟨some 7, none, .mov (.tmp 1)⟩,
 ⟨some 8, none, .call 34 [.tmp 6, .tmp 7]⟩, ⟨some 1, none, .mov (.tmp 8)⟩]) (.seq (.seq (.ops [⟨some 9, none, .mov (.tmp 1)⟩, ⟨some 10, none, .bin .lss false (.tmp 9) (.const (.int .i64 0))⟩]) (.cond (.tmp 10) (.seq (.ops
 [⟨some 4, none, .mov (.const (.int .i64 (-1)))⟩]) (.ret)) (.skip))) (.seq (.ops [⟨some 11, none, .mov (.tmp 1)⟩, ⟨some 4, none, .mov (.tmp 11)⟩]) (.ret))))
def lf95 : LF := { np := 2, N := 12, body := c95, res := [.tmp 4] }
theorem low95 : LowF Tryz.prog Tryz.f95 lf95 := LowF.mk' (by kernel_rfl) (by kernel_rfl) (by kernel_rfl) (by decide)

def c102 : LC :=
 .seq (.ops [⟨some 1, none, .box 112 (.tmp 0)⟩, ⟨some 2, none, .alloc 118 (.agg #[.int .i64 0, .slice none 0 0])⟩]) (.seq (.ops [⟨some 3, none, .alloc 118 (.agg #[.int .i64 0, .slice none 0 0])⟩]) (.seq (.ops [⟨some 4,
 none, .fieldAddr 0 (.tmp 1)⟩, ⟨some 5, none, .load none (.tmp 4)⟩, ⟨some 6, none, .fieldAddr 0 (.tmp 3)⟩, ⟨none, none, .store 1 (.tmp 6) (.tmp 5)⟩]) (.seq (.ops [⟨some 7, none, .fieldAddr 1 (.tmp 1)⟩, ⟨some 8, none, .load
 (some 1) (.tmp 7)⟩, ⟨some 9, none, .call 37 [.tmp 8]⟩, ⟨some 10, none, .fieldAddr 1 (.tmp 3)⟩, ⟨none, none, .store 1 (.tmp 10) (.tmp 9)⟩]) (.seq (.ops [⟨some 11, none, .load (some 2) (.tmp 3)⟩, ⟨none, none, .store 2 (.tmp
 2) (.tmp 11)⟩]) (.ret)))))
def lf102 : LF := { np := 1, N := 12, body := c102, res := [.cell 2 (some 2)] }
theorem low102 : LowF Tryz.prog Tryz.f102 lf102 := LowF.mk' (by kernel_rfl) (by kernel_rfl) (by kernel_rfl) (by decide)

def c113 : LC :=
 .seq (.ops [⟨some 2, none, .box 118 (.tmp 0)⟩, ⟨some 3, none, .box 118 (.tmp 1)⟩, ⟨some 4, none, .mov (.const (.bool false))⟩]) (.seq (.seq (.ops [⟨some 5, none, .fieldAddr 0 (.tmp 2)⟩, ⟨some 6, none, .load none (.tmp
 5)⟩, ⟨some 7, none, .fieldAddr 0 (.tmp 3)⟩, ⟨some 8, none, .load none (.tmp 7)⟩, ⟨some 9, none, .bin .neq false (.tmp 6) (.tmp 8)⟩]) (.cond (.tmp 9) (.seq (.ops [⟨some 4, none, .mov (.const (.bool false))⟩]) (.ret))
 (.skip))) (.seq (.seq (.ops [⟨some 10, none, .fieldAddr 1 (.tmp 2)⟩, ⟨some 11, none, .load (some 1) (.tmp 10)⟩, ⟨some 12, none, .fieldAddr 1 (.tmp 3)⟩, ⟨some 13, none, .load (some 1) (.tmp 12)⟩, ⟨some 14, none, .call 24
 [.tmp 11, .tmp 13]⟩, ⟨some 15, none, .un .not (.tmp 14)⟩]) (.cond (.tmp 15) (.seq (.ops [⟨some 4, none, .mov (.const (.bool false))⟩]) (.ret)) (.skip))) (.seq (.ops [⟨some 4, none, .mov (.const (.bool true))⟩]) (.ret))))
def lf113 : LF := { np := 2, N := 16, body := c113, res := [.tmp 4] }
theorem low113 : LowF Tryz.prog Tryz.f113 lf113 := LowF.mk' (by kernel_rfl) (by kernel_rfl) (by kernel_rfl) (by decide)

def c44 : LC :=
 .seq (.ops [⟨some 4, none, .mov (.const (.int .i64 0))⟩]) (.seq (.ops [⟨some 6, none, .mov (.tmp 1)⟩, ⟨some 7, none, .mov (.tmp 0)⟩, ⟨some 8, none, .lenSl (.tmp 7)⟩, ⟨some 9, none, .bin .sub false (.tmp 6) (.tmp 8)⟩,
 ⟨some 1, none, .mov (.tmp 9)⟩]) (.seq (.seq (.ops [⟨some 10, none, .mov (.tmp 1)⟩, ⟨some 11, none, .bin .lss false (.tmp 10) (.const (.int .i64 0))⟩]) (.cond (.tmp 11) (.seq (.ops [⟨some 4, none, .mov (.const (.int .i64
 (-1)))⟩]) (.ret)) (.skip))) (.seq (.seq (.ops [⟨some 5, none, .mov (.const (.int .i64 0))⟩]) (.block 0 (.loop (.seq (.seq (.ops [⟨some 12, none, .mov (.tmp 5)⟩, ⟨some 13, none, .mov (.tmp 0)⟩, ⟨some 14, none, .lenSl (.tmp
 13)⟩, ⟨some 15, none, .bin .lss false (.tmp 12) (.tmp 14)⟩]) (.cond (.tmp 15) (.skip) (.exit 0))) (.seq (.block 1 (.seq (.ops [⟨some 18, none, .mov (.tmp 0)⟩, ⟨some 19, none, .mov (.tmp 5)⟩, ⟨some 20, none, .indexAddr 2
 (.tmp 18) (.tmp 19)⟩, ⟨some 21, none, .load (some 2) (.tmp 20)⟩, ⟨some 22, none, .mov (.tmp 1)⟩, ⟨some 23, none, .call 95 [.tmp 21, .tmp 22]⟩, ⟨some 1, none, .mov (.tmp 23)⟩]) (.seq (.ops [⟨some 24, none, .mov (.tmp 1)⟩,
 ⟨some 25, none, .bin .lss false (.tmp 24) (.const (.int .i64 0))⟩]) (.cond (.tmp 25) (.seq (.ops [⟨some 4, none, .mov (.const (.int .i64 (-1)))⟩]) (.ret)) (.skip))))) (.ops [⟨some 16, none, .mov (.tmp 5)⟩, ⟨some 17, none,
 .bin .add false (.tmp 16) (.const (.int .i64 1))⟩, ⟨some 5, none, .mov (.tmp 17)⟩])))))) (.seq (.ops [⟨some 26, none, .mov (.tmp 1)⟩, ⟨some 4, none, .mov (.tmp 26)⟩]) (.ret)))))
def lf44 : LF := { np := 2, N := 27, body := c44, res := [.tmp 4] }
theorem low44 : LowF Tryz.prog Tryz.f44 lf44 := LowF.mk' (by kernel_rfl) (by kernel_rfl) (by kernel_rfl) (by decide)

def c48 : LC :=
 .seq (.ops [⟨some 2, none, .mov (.const (.slice none 0 0))⟩]) (.seq (.ops [⟨some 5, none, .mov (.tmp 0)⟩, ⟨some 6, none, .lenSl (.tmp 5)⟩, ⟨some 7, none, .mkSlice 118 2 32 (.agg #[.int .i64 0, .slice none 0 0]) (.tmp 6)
 (.tmp 6)⟩, ⟨some 3, none, .mov (.tmp 7)⟩]) (.seq (.seq (.ops [⟨some 4, none, .mov (.const (.int .i64 0))⟩]) (.block 0 (.loop (.seq (.seq (.ops [⟨some 8, none, .mov (.tmp 4)⟩, ⟨some 9, none, .mov (.tmp 0)⟩, ⟨some 10, none,
 .lenSl (.tmp 9)⟩, ⟨some 11, none, .bin .lss false (.tmp 8) (.tmp 10)⟩]) (.cond (.tmp 11) (.skip) (.exit 0))) (.seq (.block 1 (.ops [⟨some 14, none, .mov (.tmp 3)⟩, ⟨some 15, none, .mov (.tmp 4)⟩, ⟨some 16, none, .mov
 (.tmp 0)⟩, ⟨some 17, none, .mov (.tmp 4)⟩, ⟨some 18, none, .indexAddr 2 (.tmp 16) (.tmp 17)⟩, ⟨some 19, none, .load (some 2) (.tmp 18)⟩, ⟨some 20, none, .call 102 [.tmp 19]⟩, ⟨some 21, none, .indexAddr 2 (.tmp 14) (.tmp
 15)⟩, ⟨none, none, .store 2 (.tmp 21) (.tmp 20)⟩])) (.ops [⟨some 12, none, .mov (.tmp 4)⟩, ⟨some 13, none, .bin .add false (.tmp 12) (.const (.int .i64 1))⟩, ⟨some 4, none, .mov (.tmp 13)⟩])))))) (.seq (.ops [⟨some 22,
 none, .mov (.tmp 3)⟩, ⟨some 2, none, .mov (.tmp 22)⟩]) (.ret))))
def lf48 : LF := { np := 1, N := 23, body := c48, res := [.tmp 2] }
theorem low48 : LowF Tryz.prog Tryz.f48 lf48 := LowF.mk' (by kernel_rfl) (by kernel_rfl) (by kernel_rfl) (by decide)

def c54 : LC :=
 .seq (.ops [⟨some 4, none, .mov (.const (.bool false))⟩]) (.seq (.seq (.ops [⟨some 6, none, .mov (.tmp 0)⟩, ⟨some 7, none, .lenSl (.tmp 6)⟩, ⟨some 8, none, .mov (.tmp 1)⟩, ⟨some 9, none, .lenSl (.tmp 8)⟩, ⟨some 10, none,
 .bin .neq false (.tmp 7) (.tmp 9)⟩]) (.cond (.tmp 10) (.seq (.ops [⟨some 4, none, .mov (.const (.bool false))⟩]) (.ret)) (.skip))) (.seq (.seq (.ops [⟨some 5, none, .mov (.const (.int .i64 0))⟩]) (.block 0 (.loop (.seq
 (.seq (.ops [⟨some 11, none, .mov (.tmp 5)⟩, ⟨some 12, none, .mov (.tmp 0)⟩, ⟨some 13, none, .lenSl (.tmp 12)⟩, ⟨some 14, none, .bin .lss false (.tmp 11) (.tmp 13)⟩]) (.cond (.tmp 14) (.skip) (.exit 0))) (.seq (.block 1
 (.seq (.dops [⟨some 17, none, .mov (.tmp 0)⟩, ⟨some 18, none, .mov (.tmp 5)⟩, ⟨some 19, none, .indexAddr 2 (.tmp 17) (.tmp 18)⟩, ⟨some 20, none, .load (some 2) (.tmp 19)⟩, ⟨some 21, none, .mov (.tmp 1)⟩, ⟨some 22, none,
 .mov (.tmp 5)⟩, ⟨some 23, none, .indexAddr 2 (.tmp 21) (.tmp 22)⟩, ⟨some 24, none, .load (some 2) (.tmp 23)⟩, ⟨some 25, none, .call 113 [.tmp 20, .tmp 24]⟩, ⟨some 26, none, .un .not (.tmp 25)⟩]) (.cond (.tmp 26) (.seq
 (.ops [⟨some 4, none, .mov (.const (.bool false))⟩]) (.ret)) (.skip)))) (.ops [⟨some 15, none, .mov (.tmp 5)⟩, ⟨some 16, none, .bin .add false (.tmp 15) (.const (.int .i64 1))⟩, ⟨some 5, none, .mov (.tmp 16)⟩])))))) (.seq
 (.ops [⟨some 4, none, .mov (.const (.bool true))⟩]) (.ret))))
def lf54 : LF := { np := 2, N := 27, body := c54, res := [.tmp 4] }
theorem low54 : LowF Tryz.prog Tryz.f54 lf54 := LowF.mk' (by kernel_rfl) (by kernel_rfl) (by kernel_rfl) (by decide)

def c96 : LC :=
 .seq (.ops [⟨some 2, none, .box 115 (.tmp 0)⟩, ⟨some 4, none, .mov (.const (.int .i64 0))⟩]) (.seq (.ops [⟨some 5, none, .fieldAddr 0 (.tmp 2)⟩, ⟨some 6, none, .load none (.tmp 5)⟩, ⟨some 7, none, .mov (.tmp 1)⟩, ⟨some 8,
 none, .call 43 [.tmp 6, .tmp 7]⟩, ⟨some 1, none, .mov (.tmp 8)⟩]) (.seq (.seq (.ops [⟨some 9, none, .mov (.tmp 1)⟩, ⟨some 10, none, .bin .lss false (.tmp 9) (.const (.int .i64 0))⟩]) (.cond (.tmp 10) (.seq (.ops [⟨some 4,
 none, .mov (.const (.int .i64 (-1)))⟩]) (.ret)) (.skip))) (.seq (.ops [⟨some 11, none, .mov (.tmp 1)⟩, ⟨some 4, none, .mov (.tmp 11)⟩]) (.ret))))
def lf96 : LF := { np := 2, N := 12, body := c96, res := [.tmp 4] }
theorem low96 : LowF Tryz.prog Tryz.f96 lf96 := LowF.mk' (by kernel_rfl) (by kernel_rfl) (by kernel_rfl) (by decide)

def c103 : LC :=
 .seq (.ops [⟨some 1, none, .box 115 (.tmp 0)⟩, ⟨some 2, none, .alloc 82 (.agg #[.slice none 0 0])⟩]) (.seq (.ops [⟨some 3, none, .alloc 82 (.agg #[.slice none 0 0])⟩]) (.seq (.ops [⟨some 4, none, .fieldAddr 0 (.tmp 1)⟩,
 ⟨some 5, none, .load none (.tmp 4)⟩, ⟨some 6, none, .call 47 [.tmp 5]⟩, ⟨some 7, none, .fieldAddr 0 (.tmp 3)⟩, ⟨none, none, .store 1 (.tmp 7) (.tmp 6)⟩]) (.seq (.ops [⟨some 8, none, .load (some 1) (.tmp 3)⟩, ⟨none, none,
 .store 1 (.tmp 2) (.tmp 8)⟩]) (.ret))))
def lf103 : LF := { np := 1, N := 9, body := c103, res := [.cell 2 (some 1)] }
theorem low103 : LowF Tryz.prog Tryz.f103 lf103 := LowF.mk' (by kernel_rfl) (by kernel_rfl) (by kernel_rfl) (by decide)

def c114 : LC :=
 .seq (.ops [⟨some 2, none, .box 82 (.tmp 0)⟩, ⟨some 3, none, .box 82 (.tmp 1)⟩, ⟨some 4, none, .mov (.const (.bool false))⟩]) (.seq (.seq (.ops [⟨some 5, none, .fieldAddr 0 (.tmp 2)⟩, ⟨some 6, none, .load none (.tmp 5)⟩,
 ⟨some 7, none, .fieldAddr 0 (.tmp 3)⟩, ⟨some 8, none, .load none (.tmp 7)⟩, ⟨some 9, none, .call 53 [.tmp 6, .tmp 8]⟩, ⟨some 10, none, .un .not (.tmp 9)⟩]) (.cond (.tmp 10) (.seq (.ops [⟨some 4, none, .mov (.const (.bool
 false))⟩]) (.ret)) (.skip))) (.seq (.ops [⟨some 4, none, .mov (.const (.bool true))⟩]) (.ret)))
def lf114 : LF := { np := 2, N := 11, body := c114, res := [.tmp 4] }
theorem low114 : LowF Tryz.prog Tryz.f114 lf114 := LowF.mk' (by kernel_rfl) (by kernel_rfl) (by kernel_rfl) (by decide)

def c45 : LC :=
 .seq (.ops [⟨some 4, none, .mov (.const (.int .i64 0))⟩]) (.seq (.ops [⟨some 6, none, .mov (.tmp 1)⟩, ⟨some 7, none, .mov (.tmp 0)⟩, ⟨some 8, none, .lenSl (.tmp 7)⟩, ⟨some 9, none, .bin .sub false (.tmp 6) (.tmp 8)⟩,
 ⟨some 1, none, .mov (.tmp 9)⟩]) (.seq (.seq (.ops [⟨some 10, none, .mov (.tmp 1)⟩, ⟨some 11, none, .bin .lss false (.tmp 10) (.const (.int .i64 0))⟩]) (.cond (.tmp 11) (.seq (.ops [⟨some 4, none, .mov (.const (.int .i64
 (-1)))⟩]) (.ret)) (.skip))) (.seq (.seq (.ops [⟨some 5, none, .mov (.const (.int .i64 0))⟩]) (.block 0 (.loop (.seq (.seq (.ops [⟨some 12, none, .mov (.tmp 5)⟩, ⟨some 13, none, .mov (.tmp 0)⟩, ⟨some 14, none, .lenSl (.tmp
 13)⟩, ⟨some 15, none, .bin .lss false (.tmp 12) (.tmp 14)⟩]) (.cond (.tmp 15) (.skip) (.exit 0))) (.seq (.block 1 (.seq (.ops [⟨some 18, none, .mov (.tmp 0)⟩, ⟨some 19, none, .mov (.tmp 5)⟩, ⟨some 20, none, .indexAddr 1
 (.tmp 18) (.tmp 19)⟩, ⟨some 21, none, .load (some 1) (.tmp 20)⟩, ⟨some 22, none, .mov (.tmp 1)⟩, ⟨some 23, none, .call 96 [.tmp 21, .tmp 22]⟩, ⟨some 1, none, .mov (.tmp 23)⟩]) (.seq (.ops [⟨some 24, none, .mov (.tmp 1)⟩,
 ⟨some 25, none, .bin .lss false (.tmp 24) (.const (.int .i64 0))⟩]) (.cond (.tmp 25) (.seq (.ops [⟨some 4, none, .mov (.const (.int .i64 (-1)))⟩]) (.ret)) (.skip))))) (.ops [⟨some 16, none, .mov (.tmp 5)⟩, ⟨some 17, none,
 .bin .add false (.tmp 16) (.const (.int .i64 1))⟩, ⟨some 5, none, .mov (.tmp 17)⟩])))))) (.seq (.ops [⟨some 26, none, .mov (.tmp 1)⟩, ⟨some 4, none, .mov (.tmp 26)⟩]) (.ret)))))
def lf45 : LF := { np := 2, N := 27, body := c45, res := [.tmp 4] }
theorem low45 : LowF Tryz.prog Tryz.f45 lf45 := LowF.mk' (by kernel_rfl) (by kernel_rfl) (by kernel_rfl) (by decide)

def c49 : LC :=
 .seq (.ops [⟨some 2, none, .mov (.const (.slice none 0 0))⟩]) (.seq (.ops [⟨some 5, none, .mov (.tmp 0)⟩, ⟨some 6, none, .lenSl (.tmp 5)⟩, ⟨some 7, none, .mkSlice 82 1 24 (.agg #[.slice none 0 0]) (.tmp 6) (.tmp 6)⟩,
 ⟨some 3, none, .mov (.tmp 7)⟩]) (.seq (.seq (.ops [⟨some 4, none, .mov (.const (.int .i64 0))⟩]) (.block 0 (.loop (.seq (.seq (.ops [⟨some 8, none, .mov (.tmp 4)⟩, ⟨some 9, none, .mov (.tmp 0)⟩, ⟨some 10, none, .lenSl
 (.tmp 9)⟩, ⟨some 11, none, .bin .lss false (.tmp 8) (.tmp 10)⟩]) (.cond (.tmp 11) (.skip) (.exit 0))) (.seq (.block 1 (.ops [⟨some 14, none, .mov (.tmp 3)⟩, ⟨some 15, none, .mov (.tmp 4)⟩, ⟨some 16, none, .mov (.tmp 0)⟩,
 ⟨some 17, none, .mov (.tmp 4)⟩, ⟨some 18, none, .indexAddr 1 (.tmp 16) (.tmp 17)⟩, ⟨some 19, none, .load (some 1) (.tmp 18)⟩, ⟨some 20, none, .call 103 [.tmp 19]⟩, ⟨some 21, none, .indexAddr 1 (.tmp 14) (.tmp 15)⟩, ⟨none,
 none, .store 1 (.tmp 21) (.tmp 20)⟩])) (.ops [⟨some 12, none, .mov (.tmp 4)⟩, ⟨some 13, none, .bin .add false (.tmp 12) (.const (.int .i64 1))⟩, ⟨some 4, none, .mov (.tmp 13)⟩])))))) (.seq (.ops [⟨some 22, none, .mov
 (.tmp 3)⟩, ⟨some 2, none, .mov (.tmp 22)⟩]) (.ret))))
def lf49 : LF := { np := 1, N := 23, body := c49, res := [.tmp 2] }
theorem low49 : LowF Tryz.prog Tryz.f49 lf49 := LowF.mk' (by kernel_rfl) (by kernel_rfl) (by kernel_rfl) (by decide)

def c55 : LC :=
 .seq (.ops [⟨some 4, none, .mov (.const (.bool false))⟩]) (.seq (.seq (.ops [⟨some 6, none, .mov (.tmp 0)⟩, ⟨some 7, none, .lenSl (.tmp 6)⟩, ⟨some 8, none, .mov (.tmp 1)⟩, ⟨some 9, none, .lenSl (.tmp 8)⟩, ⟨some 10, none,
 .bin .neq false (.tmp 7) (.tmp 9)⟩]) (.cond (.tmp 10) (.seq (.ops [⟨some 4, none, .mov (.const (.bool false))⟩]) (.ret)) (.skip))) (.seq (.seq (.ops [⟨some 5, none, .mov (.const (.int .i64 0))⟩]) (.block 0 (.loop (.seq
 (.seq (.ops [⟨some 11, none, .mov (.tmp 5)⟩, ⟨some 12, none, .mov (.tmp 0)⟩, ⟨some 13, none, .lenSl (.tmp 12)⟩, ⟨some 14, none, .bin .lss false (.tmp 11) (.tmp 13)⟩]) (.cond (.tmp 14) (.skip) (.exit 0))) (.seq (.block 1
 (.seq (.dops [⟨some 17, none, .mov (.tmp 0)⟩, ⟨some 18, none, .mov (.tmp 5)⟩, ⟨some 19, none, .indexAddr 1 (.tmp 17) (.tmp 18)⟩, ⟨some 20, none, .load (some 1) (.tmp 19)⟩, ⟨some 21, none, .mov (.tmp 1)⟩, ⟨some 22, none,
 .mov (.tmp 5)⟩, ⟨some 23, none, .indexAddr 1 (.tmp 21) (.tmp 22)⟩, ⟨some 24, none, .load (some 1) (.tmp 23)⟩, ⟨some 25, none, .call 114 [.tmp 20, .tmp 24]⟩, ⟨some 26, none, .un .not (.tmp 25)⟩]) (.cond (.tmp 26) (.seq
 (.ops [⟨some 4, none, .mov (.const (.bool false))⟩]) (.ret)) (.skip)))) (.ops [⟨some 15, none, .mov (.tmp 5)⟩, ⟨some 16, none, .bin .add false (.tmp 15) (.const (.int .i64 1))⟩, ⟨some 5, none, .mov (.tmp 16)⟩])))))) (.seq
 (.ops [⟨some 4, none, .mov (.const (.bool true))⟩]) (.ret))))
def lf55 : LF := { np := 2, N := 27, body := c55, res := [.tmp 4] }
theorem low55 : LowF Tryz.prog Tryz.f55 lf55 := LowF.mk' (by kernel_rfl) (by kernel_rfl) (by kernel_rfl) (by decide)

def c10 : LC :=
 .seq (.ops [⟨some 2, none, .box 26 (.tmp 0)⟩, ⟨some 4, none, .mov (.const (.int .i64 0))⟩]) (.seq (.ops [⟨some 5, none, .fieldAddr 1 (.tmp 2)⟩, ⟨some 6, none, .load none (.tmp 5)⟩, ⟨some 7, none, .mov (.tmp 1)⟩, ⟨some 8,
 none, .call 43 [.tmp 6, .tmp 7]⟩, ⟨some 1, none, .mov (.tmp 8)⟩]) (.seq (.seq (.ops [⟨some 9, none, .mov (.tmp 1)⟩, ⟨some 10, none, .bin .lss false (.tmp 9) (.const (.int .i64 0))⟩]) (.cond (.tmp 10) (.seq (.ops [⟨some 4,
 none, .mov (.const (.int .i64 (-1)))⟩]) (.ret)) (.skip))) (.seq (.ops [⟨some 11, none, .fieldAddr 2 (.tmp 2)⟩, ⟨some 12, none, .load none (.tmp 11)⟩, ⟨some 13, none, .mov (.tmp 1)⟩, ⟨some 14, none, .call 44 [.tmp 12, .tmp
 13]⟩, ⟨some 1, none, .mov (.tmp 14)⟩]) (.seq (.seq (.ops [⟨some 15, none, .mov (.tmp 1)⟩, ⟨some 16, none, .bin .lss false (.tmp 15) (.const (.int .i64 0))⟩]) (.cond (.tmp 16) (.seq (.ops [⟨some 4, none, .mov (.const (.int
 .i64 (-1)))⟩]) (.ret)) (.skip))) (.seq (.ops [⟨some 17, none, .fieldAddr 3 (.tmp 2)⟩, ⟨some 18, none, .load none (.tmp 17)⟩, ⟨some 19, none, .mov (.tmp 1)⟩, ⟨some 20, none, .call 45 [.tmp 18, .tmp 19]⟩, ⟨some 1, none,
 .mov (.tmp 20)⟩]) (.seq (.seq (.ops [⟨some 21, none, .mov (.tmp 1)⟩, ⟨some 22, none, .bin .lss false (.tmp 21) (.const (.int .i64 0))⟩]) (.cond (.tmp 22) (.seq (.ops [⟨some 4, none, .mov (.const (.int .i64 (-1)))⟩])
 (.ret)) (.skip))) (.seq (.ops [⟨some 23, none, .mov (.tmp 1)⟩, ⟨some 4, none, .mov (.tmp 23)⟩]) (.ret))))))))
def lf10 : LF := { np := 2, N := 24, body := c10, res := [.tmp 4] }
theorem low10 : LowF Tryz.prog Tryz.f10 lf10 := LowF.mk' (by kernel_rfl) (by kernel_rfl) (by kernel_rfl) (by decide)

def c12 : LC :=
 .seq (.ops [⟨some 1, none, .box 26 (.tmp 0)⟩, ⟨some 2, none, .alloc 33 (.agg #[.int .i64 0, .slice none 0 0, .slice none 0 0, .slice none 0 0])⟩]) (.seq (.ops [⟨some 3, none, .alloc 33 (.agg #[.int .i64 0, .slice none 0
 0, .slice none 0 0, .slice none 0 0])⟩]) (.seq (.ops [⟨some 4, none, .fieldAddr 0 (.tmp 1)⟩, ⟨some 5, none, .load none (.tmp 4)⟩, ⟨some 6, none, .fieldAddr 0 (.tmp 3)⟩, ⟨none, none, .store 1 (.tmp 6) (.tmp 5)⟩]) (.seq
 (.ops [⟨some 7, none, .fieldAddr 1 (.tmp 1)⟩, ⟨some 8, none, .load none (.tmp 7)⟩, ⟨some 9, none, .call 47 [.tmp 8]⟩, ⟨some 10, none, .fieldAddr 1 (.tmp 3)⟩, ⟨none, none, .store 1 (.tmp 10) (.tmp 9)⟩]) (.seq (.ops [⟨some
 11, none, .fieldAddr 2 (.tmp 1)⟩, ⟨some 12, none, .load none (.tmp 11)⟩, ⟨some 13, none, .call 48 [.tmp 12]⟩, ⟨some 14, none, .fieldAddr 2 (.tmp 3)⟩, ⟨none, none, .store 1 (.tmp 14) (.tmp 13)⟩]) (.seq (.ops [⟨some 15,
 none, .fieldAddr 3 (.tmp 1)⟩, ⟨some 16, none, .load none (.tmp 15)⟩, ⟨some 17, none, .call 49 [.tmp 16]⟩, ⟨some 18, none, .fieldAddr 3 (.tmp 3)⟩, ⟨none, none, .store 1 (.tmp 18) (.tmp 17)⟩]) (.seq (.ops [⟨some 19, none,
 .load (some 4) (.tmp 3)⟩, ⟨none, none, .store 4 (.tmp 2) (.tmp 19)⟩]) (.ret)))))))
def lf12 : LF := { np := 1, N := 20, body := c12, res := [.cell 2 (some 4)] }
theorem low12 : LowF Tryz.prog Tryz.f12 lf12 := LowF.mk' (by kernel_rfl) (by kernel_rfl) (by kernel_rfl) (by decide)

def c14 : LC :=
 .seq (.ops [⟨some 2, none, .box 33 (.tmp 0)⟩, ⟨some 3, none, .box 33 (.tmp 1)⟩, ⟨some 4, none, .mov (.const (.bool false))⟩]) (.seq (.seq (.ops [⟨some 5, none, .fieldAddr 0 (.tmp 2)⟩, ⟨some 6, none, .load none (.tmp 5)⟩,
 ⟨some 7, none, .fieldAddr 0 (.tmp 3)⟩, ⟨some 8, none, .load none (.tmp 7)⟩, ⟨some 9, none, .bin .neq false (.tmp 6) (.tmp 8)⟩]) (.cond (.tmp 9) (.seq (.ops [⟨some 4, none, .mov (.const (.bool false))⟩]) (.ret)) (.skip)))
 (.seq (.seq (.ops [⟨some 10, none, .fieldAddr 1 (.tmp 2)⟩, ⟨some 11, none, .load none (.tmp 10)⟩, ⟨some 12, none, .fieldAddr 1 (.tmp 3)⟩, ⟨some 13, none, .load none (.tmp 12)⟩, ⟨some 14, none, .call 53 [.tmp 11, .tmp
 13]⟩, ⟨some 15, none, .un .not (.tmp 14)⟩]) (.cond (.tmp 15) (.seq (.ops [⟨some 4, none, .mov (.const (.bool false))⟩]) (.ret)) (.skip))) (.seq (.seq (.ops [⟨some 16, none, .fieldAddr 2 (.tmp 2)⟩, ⟨some 17, none, .load
 none (.tmp 16)⟩, ⟨some 18, none, .fieldAddr 2 (.tmp 3)⟩, ⟨some 19, none, .load none (.tmp 18)⟩, ⟨some 20, none, .call 54 [.tmp 17, .tmp 19]⟩, ⟨some 21, none, .un .not (.tmp 20)⟩]) (.cond (.tmp 21) (.seq (.ops [⟨some 4,
 none, .mov (.const (.bool false))⟩]) (.ret)) (.skip))) (.seq (.seq (.ops [⟨some 22, none, .fieldAddr 3 (.tmp 2)⟩, ⟨some 23, none, .load none (.tmp 22)⟩, ⟨some 24, none, .fieldAddr 3 (.tmp 3)⟩, ⟨some 25, none, .load none
 (.tmp 24)⟩, ⟨some 26, none, .call 55 [.tmp 23, .tmp 25]⟩, ⟨some 27, none, .un .not (.tmp 26)⟩]) (.cond (.tmp 27) (.seq (.ops [⟨some 4, none, .mov (.const (.bool false))⟩]) (.ret)) (.skip))) (.seq (.ops [⟨some 4, none,
 .mov (.const (.bool true))⟩]) (.ret))))))
def lf14 : LF := { np := 2, N := 28, body := c14, res := [.tmp 4] }
theorem low14 : LowF Tryz.prog Tryz.f14 lf14 := LowF.mk' (by kernel_rfl) (by kernel_rfl) (by kernel_rfl) (by decide)

theorem szBind_ok (x : GBind) (l : Int) (h0 : 0 ≤ l) (h1 : l ≤ 1048576) (hw : GBind.wf x) (h : List Row) : PureCall Tryz.prog 94 [.agg (GBind.cells x), .val (.int .i64 l)] h (.val (.int .i64 (szR (GBind.sz x) l))) := by
 obtain ⟨w_Name, w_Cell, _⟩ := hw
 have hsz : GBind.sz x = ByteArray.size x.Name := rfl
 refine pure_fn mixed Tryz.func94 low94 rfl rfl ?_ h
 unfold wfStr at w_Name
 simp (disch := omega) only [lf94, c94, GBind.cells, Ex_cond, go_sem, Nat.reduceEqDiff, Nat.reduceAdd, Int.reduceNeg, ↓reduceIte, wrap_in]
 refine ⟨fun hn => ?_, fun hn_Name => ?_⟩
 ·rw [szR_neg (by omega)]; exact resolve_val _ _
 try simp (disch := omega) only [wrap_in]
 rw [szR_pos (by omega), hsz]
 have hfin : l - ((ByteArray.size x.Name : Nat) : Int) = l - ByteArray.size x.Name := by omega
 rw [hfin]; exact resolve_val _ _

theorem toBind_ok (x : GBind) (hb : GBind.sz x ≤ 1048576) (h : List Row) : PureCall Tryz.prog 101 [.agg (GBind.cells x)] h (.agg (GBind.cells x)) := by
 have hsz : GBind.sz x = ByteArray.size x.Name := rfl
 refine pure_fn mixed Tryz.func101 low101 rfl rfl ?_ h
 simp (disch := omega) only [lf101, c101, GBind.cells, go_sem, Nat.reduceEqDiff, Nat.reduceAdd, Nat.reduceLeDiff, ↓reduceIte, post_cell]
 exact resolve_agg _ _ rfl

theorem eqBind_ok (x : GBind) (hb : GBind.sz x ≤ 1048576) (h : List Row) : PureCall Tryz.prog 112 [.agg (GBind.cells x), .agg (GBind.cells x)] h (.val (.bool true)) := by
 have hsz : GBind.sz x = ByteArray.size x.Name := rfl
 refine pure_fn mixed Tryz.func112 low112 rfl rfl ?_ h
 simp (disch := omega) only [lf112, c112, GBind.cells, Ex_cond, go_sem, Nat.reduceEqDiff, Nat.reduceAdd, ↓reduceIte]
 exact resolve_val _ _

theorem szBindS_ok (xs : List GBind) (l : Int) (h0 : 0 ≤ l) (h1 : l ≤ 1048576) (hw : wfList GBind.wf xs) (h : List Row) : PureCall Tryz.prog 43 [.list 0 2 (xs.map GBind.cells), .val (.int .i64 l)] h (.val (.int .i64 (szR (szList GBind.sz xs) l))) := by
 obtain ⟨hx, hs⟩ := hw
 refine pure_fn mixed Tryz.func43 low43 rfl rfl ?_ h
 simp (disch := omega) only [lf43, c43, Ex_cond, go_sem, Nat.reduceEqDiff, reduceCtorEq, Int.reduceNeg, ↓reduceIte, wrap_in]
 refine ⟨fun hn => ?_, fun hn => ?_⟩
 ·rw [szR_neg (by simp only [szList]; omega)]; exact resolve_val _ _
 ·refine Ex_loop (fun n t h => ∃ (k : Nat) (m : Int), t 0 = .list 0 2 (xs.map GBind.cells) ∧ t 5 = .val (.int .i64 k) ∧ t 1 = .val (.int .i64 m) ∧ h = [] ∧ n = xs.length - k ∧ k ≤ xs.length ∧ 0 ≤ m ∧ m ≤ 1048576 ∧ szR (szList GBind.sz xs) l = szR (sumOf GBind.sz (xs.drop k)) m) xs.length ?_ ?_
  ·exact ⟨0, l - xs.length, rfl, rfl, rfl, rfl, rfl, Nat.zero_le _, by omega, by omega, szR_sub (by omega)⟩
  ·rintro J hJ n t h ⟨k, m, t0, t5, t1, rfl, rfl, hk, hm0, hm1, hS⟩
   by_cases hlt : k < xs.length
   ·have hd := sumOf_drop GBind.sz xs k hlt
    have hwk := hs _ (List.getElem_mem hlt)
    rw [hd] at hS
    simp (disch := omega) only [t0, t5, t1, hlt, GBind.cells, Ex_cond, go_sem, Nat.reduceEqDiff, Nat.reduceAdd, reduceCtorEq, Int.reduceNeg, ↓reduceIte]
    refine PureCall.call (szBind_ok xs[k] m hm0 hm1 hwk []) ?_
    by_cases hc : (GBind.sz xs[k] : Int) ≤ m
    ·rw [szR_pos (n := GBind.sz xs[k]) (l := m) hc]
     simp (disch := omega) only [t5, Ex_cond, go_sem, Nat.reduceEqDiff, Int.reduceNeg, ↓reduceIte, wrap_in]
     refine ⟨fun hn2 => absurd hn2 (by omega), fun _ => ?_⟩
     exact ⟨xs.length - (k + 1), by omega, hJ _ _ _ ⟨k + 1, m - GBind.sz xs[k], by simp [upd, t0], by simp [upd], by simp [upd], rfl, rfl, by omega, by omega, by omega, by rw [hS, szR_sub (by omega)]⟩⟩
    ·rw [szR_neg (n := GBind.sz xs[k]) (l := m) (by omega)]
     simp (disch := omega) only [t5, Ex_cond, go_sem, Nat.reduceEqDiff, Int.reduceNeg, ↓reduceIte, wrap_in]
     rw [hS, szR_neg (by omega)]; exact resolve_val _ _
   ·simp (disch := omega) only [t0, t5, t1, hlt, Ex_cond, go_sem, Nat.reduceEqDiff, reduceCtorEq, Int.reduceNeg, ↓reduceIte]
    rw [hS, List.drop_eq_nil_of_le (by omega), szR_pos (by simp only [sumOf]; omega)]
    simp only [sumOf, Int.natCast_zero, Int.sub_zero]
    exact resolve_val _ _

theorem toBindS_ok (xs : List GBind) (hb : (szList GBind.sz) xs ≤ 1048576) (h : List Row) : PureCall Tryz.prog 47 [.list 0 2 (xs.map GBind.cells)] h (.list 0 2 (xs.map GBind.cells)) := by
 have hx := Nat.le_trans (szList_length (f := GBind.sz) (xs := xs)) hb
 refine pure_fn mixed Tryz.func47 low47 rfl rfl ?_ h
 simp (disch := omega) only [lf47, c47, go_sem, reduceCtorEq, ↓reduceIte]
 refine ⟨by omega, by omega, ?_⟩
 refine Ex_loop (fun n t h => ∃ k : Nat, t 0 = .list 0 2 (xs.map GBind.cells) ∧ t 3 = .own 0 xs.length ∧ t 4 = .val (.int .i64 k) ∧ h = [⟨77, 2, fillTo (xs.map GBind.cells) [.val (.string ⟨#[]⟩), .val (.int .i64 0)] k⟩] ∧ n = xs.length - k ∧ k ≤ xs.length) xs.length ?_ ?_
 ·exact ⟨0, rfl, rfl, rfl, by rw [fillTo_zero]; simp, rfl, Nat.zero_le _⟩
 ·rintro J hJ n t h ⟨k, t0, t3, t4, rfl, rfl, hk⟩
  have fl : (fillTo (xs.map GBind.cells) [.val (.string ⟨#[]⟩), .val (.int .i64 0)] k).length = xs.length := by rw [fillTo_length _ _ (by simpa using hk)]; simp
  by_cases hlt : k < xs.length
  ·have fg : (fillTo (xs.map GBind.cells) [.val (.string ⟨#[]⟩), .val (.int .i64 0)] k)[k]? = some [.val (.string ⟨#[]⟩), .val (.int .i64 0)] := fillTo_get _ _ (by simpa using hlt)
   have fs := fillTo_set' (xs.map GBind.cells) [.val (.string ⟨#[]⟩), .val (.int .i64 0)] (GBind.cells xs[k]) (k := k) (by rw [List.getElem?_map, List.getElem?_eq_getElem hlt]; rfl)
   simp only [GBind.cells] at fs
   simp (disch := omega) only [t0, t3, t4, hlt, GBind.cells, Ex_cond, go_sem, Nat.reduceEqDiff, Nat.reduceAdd, reduceCtorEq, ↓reduceIte]
   refine PureCall.call (toBind_ok xs[k] (by have := szList_mem (f := GBind.sz) (List.getElem_mem hlt); omega) _) ?_
   simp (disch := omega) only [t4, hlt, fl, fg, fs, GBind.cells, go_sem, Nat.reduceEqDiff, Nat.reduceAdd, ↓reduceIte, wrap_in]
   exact ⟨xs.length - (k + 1), by omega, hJ _ _ _ ⟨k + 1, by simp [upd, t0], by simp [upd, t3], by simp [upd], rfl, rfl, by omega⟩⟩
  ·simp (disch := omega) only [t0, t3, t4, hlt, Ex_cond, go_sem, Nat.reduceEqDiff, reduceCtorEq, ↓reduceIte]
   have ff : fillTo (xs.map GBind.cells) [.val (.string ⟨#[]⟩), .val (.int .i64 0)] k = xs.map GBind.cells := fillTo_all _ _ (by simp; omega)
   rw [ff]
   exact resolve_own (r := ⟨77, 2, xs.map GBind.cells⟩) rfl (by simp) (by intro e he; obtain ⟨x, _, q⟩ := List.mem_map.1 he; subst q; rfl)

theorem eqBindS_ok (xs : List GBind) (hb : (szList GBind.sz) xs ≤ 1048576) (h : List Row) : PureCall Tryz.prog 53 [.list 0 2 (xs.map GBind.cells), .list 0 2 (xs.map GBind.cells)] h (.val (.bool true)) := by
 have hx := Nat.le_trans (szList_length (f := GBind.sz) (xs := xs)) hb
 refine pure_fn mixed Tryz.func53 low53 rfl rfl ?_ h
 simp (disch := omega) only [lf53, c53, Ex_cond, go_sem, Nat.reduceEqDiff, reduceCtorEq, ↓reduceIte]
 refine Ex_loop (fun n t h => ∃ k : Nat, t 0 = .list 0 2 (xs.map GBind.cells) ∧ t 1 = .list 0 2 (xs.map GBind.cells) ∧ t 5 = .val (.int .i64 k) ∧ h = [] ∧ n = xs.length - k ∧ k ≤ xs.length) xs.length ?_ ?_
 ·exact ⟨0, rfl, rfl, rfl, rfl, rfl, Nat.zero_le _⟩
 ·rintro J hJ n t h ⟨k, t0, t1, t5, rfl, rfl, hk⟩
  by_cases hlt : k < xs.length
  ·simp (disch := omega) only [t0, t1, t5, hlt, GBind.cells, Ex_cond, go_sem, Nat.reduceEqDiff, Nat.reduceAdd, reduceCtorEq, ↓reduceIte, wrap_in]
   refine PureCall.q (eqBind_ok xs[k] (by have := szList_mem (f := GBind.sz) (List.getElem_mem hlt); omega) _) ?_
   simp (disch := omega) only [go_sem]
   exact ⟨xs.length - (k + 1), by omega, hJ _ _ _ ⟨k + 1, by simp [upd, t0], by simp [upd, t1], by simp [upd], rfl, rfl, by omega⟩⟩
  ·simp (disch := omega) only [t0, t1, t5, hlt, Ex_cond, go_sem, Nat.reduceEqDiff, reduceCtorEq, ↓reduceIte, wrap_in]
   exact resolve_val _ _

theorem szStringS_ok (xs : List ByteArray) (l : Int) (h0 : 0 ≤ l) (h1 : l ≤ 1048576) (hw : wfList wfStr xs) (h : List Row) : PureCall Tryz.prog 17 [.list 0 1 (xs.map cStr), .val (.int .i64 l)] h (.val (.int .i64 (szR (szList ByteArray.size xs) l))) := by
 obtain ⟨hx, hs⟩ := hw
 refine pure_fn mixed Tryz.func17 low17 rfl rfl ?_ h
 simp (disch := omega) only [lf17, c17, Ex_cond, go_sem, Nat.reduceEqDiff, reduceCtorEq, Int.reduceNeg, ↓reduceIte, wrap_in]
 refine ⟨fun hn => ?_, fun hn => ?_⟩
 ·rw [szR_neg (by simp only [szList]; omega)]; exact resolve_val _ _
 ·refine Ex_loop (fun n t h => ∃ (k : Nat) (m : Int), t 0 = .list 0 1 (xs.map cStr) ∧ t 5 = .val (.int .i64 k) ∧ t 1 = .val (.int .i64 m) ∧ h = [] ∧ n = xs.length - k ∧ k ≤ xs.length ∧ 0 ≤ m ∧ m ≤ 1048576 ∧ szR (szList ByteArray.size xs) l = szR (sumOf ByteArray.size (xs.drop k)) m) xs.length ?_ ?_
  ·exact ⟨0, l - xs.length, rfl, rfl, rfl, rfl, rfl, Nat.zero_le _, by omega, by omega, szR_sub (by omega)⟩
  ·rintro J hJ n t h ⟨k, m, t0, t5, t1, rfl, rfl, hk, hm0, hm1, hS⟩
   by_cases hlt : k < xs.length
   ·have hd := sumOf_drop ByteArray.size xs k hlt
    have hwk := hs _ (List.getElem_mem hlt)
    rw [hd] at hS
    unfold wfStr at hwk
    simp (disch := omega) only [t0, t5, t1, hlt, Ex_cond, go_sem, Nat.reduceEqDiff, reduceCtorEq, Int.reduceNeg, ↓reduceIte, wrap_in]
    refine ⟨fun hn2 => ?_, fun hn2 => ?_⟩
    ·rw [hS, szR_neg (by omega)]; exact resolve_val _ _
    ·exact ⟨xs.length - (k + 1), by omega, hJ _ _ _ ⟨k + 1, m - xs[k].size, by simp [upd, t0], by simp [upd], by simp [upd], rfl, rfl, by omega, by omega, by omega, by rw [hS, szR_sub (by omega)]⟩⟩
   ·simp (disch := omega) only [t0, t5, t1, hlt, Ex_cond, go_sem, Nat.reduceEqDiff, reduceCtorEq, Int.reduceNeg, ↓reduceIte]
    rw [hS, List.drop_eq_nil_of_le (by omega), szR_pos (by simp only [sumOf]; omega)]
    simp only [sumOf, Int.natCast_zero, Int.sub_zero]
    exact resolve_val _ _

theorem toStringS_ok (xs : List ByteArray) (hb : (szList ByteArray.size) xs ≤ 1048576) (h : List Row) : PureCall Tryz.prog 19 [.list 0 1 (xs.map cStr)] h (.list 0 1 (xs.map cStr)) := by
 have hx := Nat.le_trans (szList_length (f := ByteArray.size) (xs := xs)) hb
 refine pure_fn mixed Tryz.func19 low19 rfl rfl ?_ h
 simp (disch := omega) only [lf19, c19, go_sem, reduceCtorEq, ↓reduceIte]
 refine ⟨by omega, by omega, ?_⟩
 refine Ex_loop (fun n t h => ∃ k : Nat, t 0 = .list 0 1 (xs.map cStr) ∧ t 3 = .own 0 xs.length ∧ t 4 = .val (.int .i64 k) ∧ h = [⟨9, 1, fillTo (xs.map cStr) [.val (.string ⟨#[]⟩)] k⟩] ∧ n = xs.length - k ∧ k ≤ xs.length) xs.length ?_ ?_
 ·exact ⟨0, rfl, rfl, rfl, by rw [fillTo_zero]; simp, rfl, Nat.zero_le _⟩
 ·rintro J hJ n t h ⟨k, t0, t3, t4, rfl, rfl, hk⟩
  have fl : (fillTo (xs.map cStr) [.val (.string ⟨#[]⟩)] k).length = xs.length := by rw [fillTo_length _ _ (by simpa using hk)]; simp
  by_cases hlt : k < xs.length
  ·have fg : (fillTo (xs.map cStr) [.val (.string ⟨#[]⟩)] k)[k]? = some [.val (.string ⟨#[]⟩)] := fillTo_get _ _ (by simpa using hlt)
   have fs := fillTo_set' (xs.map cStr) [.val (.string ⟨#[]⟩)] (cStr xs[k]) (k := k) (by rw [List.getElem?_map, List.getElem?_eq_getElem hlt]; rfl)
   simp (disch := omega) only [t0, t3, t4, hlt, fl, fg, Ex_cond, go_sem, Nat.reduceEqDiff, reduceCtorEq, ↓reduceIte, wrap_in]
   try simp (disch := omega) only [fs, go_sem]
   exact ⟨xs.length - (k + 1), by omega, hJ _ _ _ ⟨k + 1, by simp [upd, t0], by simp [upd, t3], by simp [upd], by simp [], rfl, by omega⟩⟩
  ·simp (disch := omega) only [t0, t3, t4, hlt, fl, Ex_cond, go_sem, Nat.reduceEqDiff, reduceCtorEq, ↓reduceIte]
   have ff : fillTo (xs.map cStr) [.val (.string ⟨#[]⟩)] k = xs.map cStr := fillTo_all _ _ (by simp; omega)
   rw [ff]
   exact resolve_own (r := ⟨9, 1, xs.map cStr⟩) rfl (by simp) (by intro e he; obtain ⟨x, _, q⟩ := List.mem_map.1 he; subst q; rfl)

theorem eqStringS_ok (xs : List ByteArray) (hb : (szList ByteArray.size) xs ≤ 1048576) (h : List Row) : PureCall Tryz.prog 21 [.list 0 1 (xs.map cStr), .list 0 1 (xs.map cStr)] h (.val (.bool true)) := by
 have hx := Nat.le_trans (szList_length (f := ByteArray.size) (xs := xs)) hb
 refine pure_fn mixed Tryz.func21 low21 rfl rfl ?_ h
 simp (disch := omega) only [lf21, c21, Ex_cond, go_sem, Nat.reduceEqDiff, reduceCtorEq, ↓reduceIte]
 refine Ex_loop (fun n t h => ∃ k : Nat, t 0 = .list 0 1 (xs.map cStr) ∧ t 1 = .list 0 1 (xs.map cStr) ∧ t 5 = .val (.int .i64 k) ∧ h = [] ∧ n = xs.length - k ∧ k ≤ xs.length) xs.length ?_ ?_
 ·exact ⟨0, rfl, rfl, rfl, rfl, rfl, Nat.zero_le _⟩
 ·rintro J hJ n t h ⟨k, t0, t1, t5, rfl, rfl, hk⟩
  by_cases hlt : k < xs.length
  ·simp (disch := omega) only [t0, t1, t5, hlt, Ex_cond, go_sem, Nat.reduceEqDiff, reduceCtorEq, ↓reduceIte, wrap_in]
   exact ⟨xs.length - (k + 1), by omega, hJ _ _ _ ⟨k + 1, by simp [upd, t0], by simp [upd, t1], by simp [upd], rfl, rfl, by omega⟩⟩
  ·simp (disch := omega) only [t0, t1, t5, hlt, Ex_cond, go_sem, Nat.reduceEqDiff, reduceCtorEq, ↓reduceIte, wrap_in]
   exact resolve_val _ _

theorem szNode_ok (x : GNode) (l : Int) (h0 : 0 ≤ l) (h1 : l ≤ 1048576) (hw : GNode.wf x) (h : List Row) : PureCall Tryz.prog 140 [.agg (GNode.cells x), .val (.int .i64 l)] h (.val (.int .i64 (szR (GNode.sz x) l))) := by
 obtain ⟨w_Name, w_Subs, w_Value, _⟩ := hw
 have hsz : GNode.sz x = ByteArray.size x.Name + (szList ByteArray.size) x.Subs + ByteArray.size x.Value := rfl
 refine pure_fn mixed Tryz.func140 low140 rfl rfl ?_ h
 unfold wfStr at w_Name
 unfold wfStr at w_Value
 simp (disch := omega) only [lf140, c140, GNode.cells, Ex_cond, go_sem, Nat.reduceEqDiff, Nat.reduceAdd, Int.reduceNeg, ↓reduceIte, wrap_in]
 refine ⟨fun hn => ?_, fun hn_Name => ?_⟩
 ·rw [szR_neg (by omega)]; exact resolve_val _ _
 try simp (disch := omega) only [wrap_in]
 refine PureCall.call (szStringS_ok x.Subs (l - ByteArray.size x.Name) (by omega) (by omega) w_Subs _) ?_
 by_cases hn_Subs : ((szList ByteArray.size) x.Subs : Int) ≤ l - ByteArray.size x.Name
 case neg =>
  rw [szR_neg (n := (szList ByteArray.size) x.Subs) (l := l - ByteArray.size x.Name) (by omega)]
  simp (disch := omega) only [Ex_cond, go_sem, Nat.reduceEqDiff, Int.reduceNeg, ↓reduceIte, wrap_in]
  rw [szR_neg (by omega)]; exact resolve_val _ _
 rw [szR_pos (n := (szList ByteArray.size) x.Subs) (l := l - ByteArray.size x.Name) hn_Subs]
 simp (disch := omega) only [Ex_cond, go_sem, Nat.reduceEqDiff, Int.reduceNeg, ↓reduceIte, wrap_in]
 refine ⟨fun hn => absurd hn (by omega), fun _ => ?_⟩
 refine ⟨fun hn => ?_, fun hn_Value => ?_⟩
 ·rw [szR_neg (by omega)]; exact resolve_val _ _
 try simp (disch := omega) only [wrap_in]
 rw [szR_pos (by omega), hsz]
 have hfin : l - ((ByteArray.size x.Name + (szList ByteArray.size) x.Subs + ByteArray.size x.Value : Nat) : Int) = l - ByteArray.size x.Name - (szList ByteArray.size) x.Subs - ByteArray.size x.Value := by omega
 rw [hfin]; exact resolve_val _ _

theorem toNode_ok (x : GNode) (hb : GNode.sz x ≤ 1048576) (h : List Row) : PureCall Tryz.prog 154 [.agg (GNode.cells x)] h (.agg (GNode.cells x)) := by
 have hsz : GNode.sz x = ByteArray.size x.Name + (szList ByteArray.size) x.Subs + ByteArray.size x.Value := rfl
 refine pure_fn mixed Tryz.func154 low154 rfl rfl ?_ h
 simp (disch := omega) only [lf154, c154, GNode.cells, go_sem, Nat.reduceEqDiff, Nat.reduceAdd, Nat.reduceLeDiff, ↓reduceIte]
 refine PureCall.call (toStringS_ok x.Subs (by omega) _) ?_
 simp (disch := omega) only [go_sem, Nat.reduceEqDiff, Nat.reduceAdd, Nat.reduceLeDiff, ↓reduceIte, post_cell]
 exact resolve_agg _ _ rfl

theorem eqNode_ok (x : GNode) (hb : GNode.sz x ≤ 1048576) (h : List Row) : PureCall Tryz.prog 129 [.agg (GNode.cells x), .agg (GNode.cells x)] h (.val (.bool true)) := by
 have hsz : GNode.sz x = ByteArray.size x.Name + (szList ByteArray.size) x.Subs + ByteArray.size x.Value := rfl
 refine pure_fn mixed Tryz.func129 low129 rfl rfl ?_ h
 simp (disch := omega) only [lf129, c129, GNode.cells, Ex_cond, go_sem, Nat.reduceEqDiff, Nat.reduceAdd, ↓reduceIte]
 refine PureCall.call (eqStringS_ok x.Subs (by omega) _) ?_
 simp (disch := omega) only [Ex_cond, go_sem, Nat.reduceEqDiff, ↓reduceIte]
 exact resolve_val _ _

theorem szNodeS_ok (xs : List GNode) (l : Int) (h0 : 0 ≤ l) (h1 : l ≤ 1048576) (hw : wfList GNode.wf xs) (h : List Row) : PureCall Tryz.prog 83 [.list 0 3 (xs.map GNode.cells), .val (.int .i64 l)] h (.val (.int .i64 (szR (szList GNode.sz xs) l))) := by
 obtain ⟨hx, hs⟩ := hw
 refine pure_fn mixed Tryz.func83 low83 rfl rfl ?_ h
 simp (disch := omega) only [lf83, c83, Ex_cond, go_sem, Nat.reduceEqDiff, reduceCtorEq, Int.reduceNeg, ↓reduceIte, wrap_in]
 refine ⟨fun hn => ?_, fun hn => ?_⟩
 ·rw [szR_neg (by simp only [szList]; omega)]; exact resolve_val _ _
 ·refine Ex_loop (fun n t h => ∃ (k : Nat) (m : Int), t 0 = .list 0 3 (xs.map GNode.cells) ∧ t 5 = .val (.int .i64 k) ∧ t 1 = .val (.int .i64 m) ∧ h = [] ∧ n = xs.length - k ∧ k ≤ xs.length ∧ 0 ≤ m ∧ m ≤ 1048576 ∧ szR (szList GNode.sz xs) l = szR (sumOf GNode.sz (xs.drop k)) m) xs.length ?_ ?_
  ·exact ⟨0, l - xs.length, rfl, rfl, rfl, rfl, rfl, Nat.zero_le _, by omega, by omega, szR_sub (by omega)⟩
  ·rintro J hJ n t h ⟨k, m, t0, t5, t1, rfl, rfl, hk, hm0, hm1, hS⟩
   by_cases hlt : k < xs.length
   ·have hd := sumOf_drop GNode.sz xs k hlt
    have hwk := hs _ (List.getElem_mem hlt)
    rw [hd] at hS
    simp (disch := omega) only [t0, t5, t1, hlt, GNode.cells, Ex_cond, go_sem, Nat.reduceEqDiff, Nat.reduceAdd, reduceCtorEq, Int.reduceNeg, ↓reduceIte]
    refine PureCall.call (szNode_ok xs[k] m hm0 hm1 hwk []) ?_
    by_cases hc : (GNode.sz xs[k] : Int) ≤ m
    ·rw [szR_pos (n := GNode.sz xs[k]) (l := m) hc]
     simp (disch := omega) only [t5, Ex_cond, go_sem, Nat.reduceEqDiff, Int.reduceNeg, ↓reduceIte, wrap_in]
     refine ⟨fun hn2 => absurd hn2 (by omega), fun _ => ?_⟩
     exact ⟨xs.length - (k + 1), by omega, hJ _ _ _ ⟨k + 1, m - GNode.sz xs[k], by simp [upd, t0], by simp [upd], by simp [upd], rfl, rfl, by omega, by omega, by omega, by rw [hS, szR_sub (by omega)]⟩⟩
    ·rw [szR_neg (n := GNode.sz xs[k]) (l := m) (by omega)]
     simp (disch := omega) only [t5, Ex_cond, go_sem, Nat.reduceEqDiff, Int.reduceNeg, ↓reduceIte, wrap_in]
     rw [hS, szR_neg (by omega)]; exact resolve_val _ _
   ·simp (disch := omega) only [t0, t5, t1, hlt, Ex_cond, go_sem, Nat.reduceEqDiff, reduceCtorEq, Int.reduceNeg, ↓reduceIte]
    rw [hS, List.drop_eq_nil_of_le (by omega), szR_pos (by simp only [sumOf]; omega)]
    simp only [sumOf, Int.natCast_zero, Int.sub_zero]
    exact resolve_val _ _

theorem toNodeS_ok (xs : List GNode) (hb : (szList GNode.sz) xs ≤ 1048576) (h : List Row) : PureCall Tryz.prog 88 [.list 0 3 (xs.map GNode.cells)] h (.list 0 3 (xs.map GNode.cells)) := by
 have hx := Nat.le_trans (szList_length (f := GNode.sz) (xs := xs)) hb
 refine pure_fn mixed Tryz.func88 low88 rfl rfl ?_ h
 simp (disch := omega) only [lf88, c88, go_sem, reduceCtorEq, ↓reduceIte]
 refine ⟨by omega, by omega, ?_⟩
 refine Ex_loop (fun n t h => ∃ k : Nat, t 0 = .list 0 3 (xs.map GNode.cells) ∧ t 3 = .own 0 xs.length ∧ t 4 = .val (.int .i64 k) ∧ h = [⟨137, 3, fillTo (xs.map GNode.cells) [.val (.string ⟨#[]⟩), .val (.slice none 0 0), .val (.string ⟨#[]⟩)] k⟩] ∧ n = xs.length - k ∧ k ≤ xs.length) xs.length ?_ ?_
 ·exact ⟨0, rfl, rfl, rfl, by rw [fillTo_zero]; simp, rfl, Nat.zero_le _⟩
 ·rintro J hJ n t h ⟨k, t0, t3, t4, rfl, rfl, hk⟩
  have fl : (fillTo (xs.map GNode.cells) [.val (.string ⟨#[]⟩), .val (.slice none 0 0), .val (.string ⟨#[]⟩)] k).length = xs.length := by rw [fillTo_length _ _ (by simpa using hk)]; simp
  by_cases hlt : k < xs.length
  ·have fg : (fillTo (xs.map GNode.cells) [.val (.string ⟨#[]⟩), .val (.slice none 0 0), .val (.string ⟨#[]⟩)] k)[k]? = some [.val (.string ⟨#[]⟩), .val (.slice none 0 0), .val (.string ⟨#[]⟩)] := fillTo_get _ _ (by simpa using hlt)
   have fs := fillTo_set' (xs.map GNode.cells) [.val (.string ⟨#[]⟩), .val (.slice none 0 0), .val (.string ⟨#[]⟩)] (GNode.cells xs[k]) (k := k) (by rw [List.getElem?_map, List.getElem?_eq_getElem hlt]; rfl)
   simp only [GNode.cells] at fs
   simp (disch := omega) only [t0, t3, t4, hlt, GNode.cells, Ex_cond, go_sem, Nat.reduceEqDiff, Nat.reduceAdd, reduceCtorEq, ↓reduceIte]
   refine PureCall.call (toNode_ok xs[k] (by have := szList_mem (f := GNode.sz) (List.getElem_mem hlt); omega) _) ?_
   simp (disch := omega) only [t4, hlt, fl, fg, fs, GNode.cells, go_sem, Nat.reduceEqDiff, Nat.reduceAdd, ↓reduceIte, wrap_in]
   exact ⟨xs.length - (k + 1), by omega, hJ _ _ _ ⟨k + 1, by simp [upd, t0], by simp [upd, t3], by simp [upd], rfl, rfl, by omega⟩⟩
  ·simp (disch := omega) only [t0, t3, t4, hlt, Ex_cond, go_sem, Nat.reduceEqDiff, reduceCtorEq, ↓reduceIte]
   have ff : fillTo (xs.map GNode.cells) [.val (.string ⟨#[]⟩), .val (.slice none 0 0), .val (.string ⟨#[]⟩)] k = xs.map GNode.cells := fillTo_all _ _ (by simp; omega)
   rw [ff]
   exact resolve_own (r := ⟨137, 3, xs.map GNode.cells⟩) rfl (by simp) (by intro e he; obtain ⟨x, _, q⟩ := List.mem_map.1 he; subst q; rfl)

theorem eqNodeS_ok (xs : List GNode) (hb : (szList GNode.sz) xs ≤ 1048576) (h : List Row) : PureCall Tryz.prog 64 [.list 0 3 (xs.map GNode.cells), .list 0 3 (xs.map GNode.cells)] h (.val (.bool true)) := by
 have hx := Nat.le_trans (szList_length (f := GNode.sz) (xs := xs)) hb
 refine pure_fn mixed Tryz.func64 low64 rfl rfl ?_ h
 simp (disch := omega) only [lf64, c64, Ex_cond, go_sem, Nat.reduceEqDiff, reduceCtorEq, ↓reduceIte]
 refine Ex_loop (fun n t h => ∃ k : Nat, t 0 = .list 0 3 (xs.map GNode.cells) ∧ t 1 = .list 0 3 (xs.map GNode.cells) ∧ t 5 = .val (.int .i64 k) ∧ h = [] ∧ n = xs.length - k ∧ k ≤ xs.length) xs.length ?_ ?_
 ·exact ⟨0, rfl, rfl, rfl, rfl, rfl, Nat.zero_le _⟩
 ·rintro J hJ n t h ⟨k, t0, t1, t5, rfl, rfl, hk⟩
  by_cases hlt : k < xs.length
  ·simp (disch := omega) only [t0, t1, t5, hlt, GNode.cells, Ex_cond, go_sem, Nat.reduceEqDiff, Nat.reduceAdd, reduceCtorEq, ↓reduceIte, wrap_in]
   refine PureCall.q (eqNode_ok xs[k] (by have := szList_mem (f := GNode.sz) (List.getElem_mem hlt); omega) _) ?_
   simp (disch := omega) only [go_sem]
   exact ⟨xs.length - (k + 1), by omega, hJ _ _ _ ⟨k + 1, by simp [upd, t0], by simp [upd, t1], by simp [upd], rfl, rfl, by omega⟩⟩
  ·simp (disch := omega) only [t0, t1, t5, hlt, Ex_cond, go_sem, Nat.reduceEqDiff, reduceCtorEq, ↓reduceIte, wrap_in]
   exact resolve_val _ _

theorem szTree_ok (x : GTree) (l : Int) (h0 : 0 ≤ l) (h1 : l ≤ 1048576) (hw : GTree.wf x) (h : List Row) : PureCall Tryz.prog 34 [.agg (GTree.cells x), .val (.int .i64 l)] h (.val (.int .i64 (szR (GTree.sz x) l))) := by
 obtain ⟨w_Nodes, _⟩ := hw
 have hsz : GTree.sz x = (szList GNode.sz) x.Nodes := rfl
 refine pure_fn mixed Tryz.func34 low34 rfl rfl ?_ h
 simp (disch := omega) only [lf34, c34, GTree.cells, go_sem, Nat.reduceEqDiff, Int.reduceNeg, ↓reduceIte]
 refine PureCall.call (szNodeS_ok x.Nodes (l) (by omega) (by omega) w_Nodes _) ?_
 by_cases hn_Nodes : ((szList GNode.sz) x.Nodes : Int) ≤ l
 case neg =>
  rw [szR_neg (n := (szList GNode.sz) x.Nodes) (l := l) (by omega)]
  simp (disch := omega) only [Ex_cond, go_sem, Nat.reduceEqDiff, Int.reduceNeg, ↓reduceIte]
  rw [szR_neg (by omega)]; exact resolve_val _ _
 rw [szR_pos (n := (szList GNode.sz) x.Nodes) (l := l) hn_Nodes]
 simp (disch := omega) only [Ex_cond, go_sem, Nat.reduceEqDiff, Int.reduceNeg, ↓reduceIte]
 refine ⟨fun hn => absurd hn (by omega), fun _ => ?_⟩
 rw [szR_pos (by omega), hsz]
 have hfin : l - (((szList GNode.sz) x.Nodes : Nat) : Int) = l - (szList GNode.sz) x.Nodes := by omega
 rw [hfin]; exact resolve_val _ _

theorem toTree_ok (x : GTree) (hb : GTree.sz x ≤ 1048576) (h : List Row) : PureCall Tryz.prog 37 [.agg (GTree.cells x)] h (.agg (GTree.cells x)) := by
 have hsz : GTree.sz x = (szList GNode.sz) x.Nodes := rfl
 refine pure_fn mixed Tryz.func37 low37 rfl rfl ?_ h
 simp (disch := omega) only [lf37, c37, GTree.cells, go_sem, Nat.reduceEqDiff, Nat.reduceAdd, ↓reduceIte]
 refine PureCall.call (toNodeS_ok x.Nodes (by omega) _) ?_
 simp (disch := omega) only [go_sem, Nat.reduceEqDiff, ↓reduceIte, post_cell]
 exact resolve_agg _ _ rfl

theorem eqTree_ok (x : GTree) (hb : GTree.sz x ≤ 1048576) (h : List Row) : PureCall Tryz.prog 24 [.agg (GTree.cells x), .agg (GTree.cells x)] h (.val (.bool true)) := by
 have hsz : GTree.sz x = (szList GNode.sz) x.Nodes := rfl
 refine pure_fn mixed Tryz.func24 low24 rfl rfl ?_ h
 simp (disch := omega) only [lf24, c24, GTree.cells, go_sem, Nat.reduceEqDiff, ↓reduceIte]
 refine PureCall.call (eqNodeS_ok x.Nodes (by omega) _) ?_
 simp (disch := omega) only [Ex_cond, go_sem, ↓reduceIte]
 exact resolve_val _ _

theorem szCell_ok (x : GCell) (l : Int) (h0 : 0 ≤ l) (h1 : l ≤ 1048576) (hw : GCell.wf x) (h : List Row) : PureCall Tryz.prog 95 [.agg (GCell.cells x), .val (.int .i64 l)] h (.val (.int .i64 (szR (GCell.sz x) l))) := by
 obtain ⟨w_Id, w_Tree, _⟩ := hw
 have hsz : GCell.sz x = GTree.sz x.Tree := rfl
 refine pure_fn mixed Tryz.func95 low95 rfl rfl ?_ h
 simp (disch := omega) only [lf95, c95, GCell.cells, go_sem, Nat.reduceEqDiff, Nat.reduceAdd, Int.reduceNeg, ↓reduceIte]
 refine PureCall.call (szTree_ok x.Tree (l) (by omega) (by omega) w_Tree _) ?_
 by_cases hn_Tree : (GTree.sz x.Tree : Int) ≤ l
 case neg =>
  rw [szR_neg (n := GTree.sz x.Tree) (l := l) (by omega)]
  simp (disch := omega) only [Ex_cond, go_sem, Nat.reduceEqDiff, Int.reduceNeg, ↓reduceIte]
  rw [szR_neg (by omega)]; exact resolve_val _ _
 rw [szR_pos (n := GTree.sz x.Tree) (l := l) hn_Tree]
 simp (disch := omega) only [Ex_cond, go_sem, Nat.reduceEqDiff, Int.reduceNeg, ↓reduceIte]
 refine ⟨fun hn => absurd hn (by omega), fun _ => ?_⟩
 rw [szR_pos (by omega), hsz]
 have hfin : l - ((GTree.sz x.Tree : Nat) : Int) = l - GTree.sz x.Tree := by omega
 rw [hfin]; exact resolve_val _ _

theorem toCell_ok (x : GCell) (hb : GCell.sz x ≤ 1048576) (h : List Row) : PureCall Tryz.prog 102 [.agg (GCell.cells x)] h (.agg (GCell.cells x)) := by
 have hsz : GCell.sz x = GTree.sz x.Tree := rfl
 refine pure_fn mixed Tryz.func102 low102 rfl rfl ?_ h
 simp (disch := omega) only [lf102, c102, GCell.cells, go_sem, Nat.reduceEqDiff, Nat.reduceAdd, Nat.reduceLeDiff, ↓reduceIte]
 refine PureCall.call (toTree_ok x.Tree (by omega) _) ?_
 simp (disch := omega) only [GTree.cells, go_sem, Nat.reduceEqDiff, Nat.reduceAdd, ↓reduceIte, post_cell]
 exact resolve_agg _ _ rfl

theorem eqCell_ok (x : GCell) (hb : GCell.sz x ≤ 1048576) (h : List Row) : PureCall Tryz.prog 113 [.agg (GCell.cells x), .agg (GCell.cells x)] h (.val (.bool true)) := by
 have hsz : GCell.sz x = GTree.sz x.Tree := rfl
 refine pure_fn mixed Tryz.func113 low113 rfl rfl ?_ h
 simp (disch := omega) only [lf113, c113, GCell.cells, Ex_cond, go_sem, Nat.reduceEqDiff, Nat.reduceAdd, ↓reduceIte]
 refine PureCall.call (eqTree_ok x.Tree (by omega) _) ?_
 simp (disch := omega) only [Ex_cond, go_sem, ↓reduceIte]
 exact resolve_val _ _

theorem szCellS_ok (xs : List GCell) (l : Int) (h0 : 0 ≤ l) (h1 : l ≤ 1048576) (hw : wfList GCell.wf xs) (h : List Row) : PureCall Tryz.prog 44 [.list 0 2 (xs.map GCell.cells), .val (.int .i64 l)] h (.val (.int .i64 (szR (szList GCell.sz xs) l))) := by
 obtain ⟨hx, hs⟩ := hw
 refine pure_fn mixed Tryz.func44 low44 rfl rfl ?_ h
 simp (disch := omega) only [lf44, c44, Ex_cond, go_sem, Nat.reduceEqDiff, reduceCtorEq, Int.reduceNeg, ↓reduceIte, wrap_in]
 refine ⟨fun hn => ?_, fun hn => ?_⟩
 ·rw [szR_neg (by simp only [szList]; omega)]; exact resolve_val _ _
 ·refine Ex_loop (fun n t h => ∃ (k : Nat) (m : Int), t 0 = .list 0 2 (xs.map GCell.cells) ∧ t 5 = .val (.int .i64 k) ∧ t 1 = .val (.int .i64 m) ∧ h = [] ∧ n = xs.length - k ∧ k ≤ xs.length ∧ 0 ≤ m ∧ m ≤ 1048576 ∧ szR (szList GCell.sz xs) l = szR (sumOf GCell.sz (xs.drop k)) m) xs.length ?_ ?_
  ·exact ⟨0, l - xs.length, rfl, rfl, rfl, rfl, rfl, Nat.zero_le _, by omega, by omega, szR_sub (by omega)⟩
  ·rintro J hJ n t h ⟨k, m, t0, t5, t1, rfl, rfl, hk, hm0, hm1, hS⟩
   by_cases hlt : k < xs.length
   ·have hd := sumOf_drop GCell.sz xs k hlt
    have hwk := hs _ (List.getElem_mem hlt)
    rw [hd] at hS
    simp (disch := omega) only [t0, t5, t1, hlt, GCell.cells, Ex_cond, go_sem, Nat.reduceEqDiff, Nat.reduceAdd, reduceCtorEq, Int.reduceNeg, ↓reduceIte]
    refine PureCall.call (szCell_ok xs[k] m hm0 hm1 hwk []) ?_
    by_cases hc : (GCell.sz xs[k] : Int) ≤ m
    ·rw [szR_pos (n := GCell.sz xs[k]) (l := m) hc]
     simp (disch := omega) only [t5, Ex_cond, go_sem, Nat.reduceEqDiff, Int.reduceNeg, ↓reduceIte, wrap_in]
     refine ⟨fun hn2 => absurd hn2 (by omega), fun _ => ?_⟩
     exact ⟨xs.length - (k + 1), by omega, hJ _ _ _ ⟨k + 1, m - GCell.sz xs[k], by simp [upd, t0], by simp [upd], by simp [upd], rfl, rfl, by omega, by omega, by omega, by rw [hS, szR_sub (by omega)]⟩⟩
    ·rw [szR_neg (n := GCell.sz xs[k]) (l := m) (by omega)]
     simp (disch := omega) only [t5, Ex_cond, go_sem, Nat.reduceEqDiff, Int.reduceNeg, ↓reduceIte, wrap_in]
     rw [hS, szR_neg (by omega)]; exact resolve_val _ _
   ·simp (disch := omega) only [t0, t5, t1, hlt, Ex_cond, go_sem, Nat.reduceEqDiff, reduceCtorEq, Int.reduceNeg, ↓reduceIte]
    rw [hS, List.drop_eq_nil_of_le (by omega), szR_pos (by simp only [sumOf]; omega)]
    simp only [sumOf, Int.natCast_zero, Int.sub_zero]
    exact resolve_val _ _

theorem toCellS_ok (xs : List GCell) (hb : (szList GCell.sz) xs ≤ 1048576) (h : List Row) : PureCall Tryz.prog 48 [.list 0 2 (xs.map GCell.cells)] h (.list 0 2 (xs.map GCell.cells)) := by
 have hx := Nat.le_trans (szList_length (f := GCell.sz) (xs := xs)) hb
 refine pure_fn mixed Tryz.func48 low48 rfl rfl ?_ h
 simp (disch := omega) only [lf48, c48, go_sem, reduceCtorEq, ↓reduceIte]
 refine ⟨by omega, by omega, ?_⟩
 refine Ex_loop (fun n t h => ∃ k : Nat, t 0 = .list 0 2 (xs.map GCell.cells) ∧ t 3 = .own 0 xs.length ∧ t 4 = .val (.int .i64 k) ∧ h = [⟨118, 2, fillTo (xs.map GCell.cells) [.val (.int .i64 0), .val (.slice none 0 0)] k⟩] ∧ n = xs.length - k ∧ k ≤ xs.length) xs.length ?_ ?_
 ·exact ⟨0, rfl, rfl, rfl, by rw [fillTo_zero]; simp, rfl, Nat.zero_le _⟩
 ·rintro J hJ n t h ⟨k, t0, t3, t4, rfl, rfl, hk⟩
  have fl : (fillTo (xs.map GCell.cells) [.val (.int .i64 0), .val (.slice none 0 0)] k).length = xs.length := by rw [fillTo_length _ _ (by simpa using hk)]; simp
  by_cases hlt : k < xs.length
  ·have fg : (fillTo (xs.map GCell.cells) [.val (.int .i64 0), .val (.slice none 0 0)] k)[k]? = some [.val (.int .i64 0), .val (.slice none 0 0)] := fillTo_get _ _ (by simpa using hlt)
   have fs := fillTo_set' (xs.map GCell.cells) [.val (.int .i64 0), .val (.slice none 0 0)] (GCell.cells xs[k]) (k := k) (by rw [List.getElem?_map, List.getElem?_eq_getElem hlt]; rfl)
   simp only [GCell.cells] at fs
   simp (disch := omega) only [t0, t3, t4, hlt, GCell.cells, Ex_cond, go_sem, Nat.reduceEqDiff, Nat.reduceAdd, reduceCtorEq, ↓reduceIte]
   refine PureCall.call (toCell_ok xs[k] (by have := szList_mem (f := GCell.sz) (List.getElem_mem hlt); omega) _) ?_
   simp (disch := omega) only [t4, hlt, fl, fg, fs, GCell.cells, go_sem, Nat.reduceEqDiff, Nat.reduceAdd, ↓reduceIte, wrap_in]
   exact ⟨xs.length - (k + 1), by omega, hJ _ _ _ ⟨k + 1, by simp [upd, t0], by simp [upd, t3], by simp [upd], rfl, rfl, by omega⟩⟩
  ·simp (disch := omega) only [t0, t3, t4, hlt, Ex_cond, go_sem, Nat.reduceEqDiff, reduceCtorEq, ↓reduceIte]
   have ff : fillTo (xs.map GCell.cells) [.val (.int .i64 0), .val (.slice none 0 0)] k = xs.map GCell.cells := fillTo_all _ _ (by simp; omega)
   rw [ff]
   exact resolve_own (r := ⟨118, 2, xs.map GCell.cells⟩) rfl (by simp) (by intro e he; obtain ⟨x, _, q⟩ := List.mem_map.1 he; subst q; rfl)

theorem eqCellS_ok (xs : List GCell) (hb : (szList GCell.sz) xs ≤ 1048576) (h : List Row) : PureCall Tryz.prog 54 [.list 0 2 (xs.map GCell.cells), .list 0 2 (xs.map GCell.cells)] h (.val (.bool true)) := by
 have hx := Nat.le_trans (szList_length (f := GCell.sz) (xs := xs)) hb
 refine pure_fn mixed Tryz.func54 low54 rfl rfl ?_ h
 simp (disch := omega) only [lf54, c54, Ex_cond, go_sem, Nat.reduceEqDiff, reduceCtorEq, ↓reduceIte]
 refine Ex_loop (fun n t h => ∃ k : Nat, t 0 = .list 0 2 (xs.map GCell.cells) ∧ t 1 = .list 0 2 (xs.map GCell.cells) ∧ t 5 = .val (.int .i64 k) ∧ h = [] ∧ n = xs.length - k ∧ k ≤ xs.length) xs.length ?_ ?_
 ·exact ⟨0, rfl, rfl, rfl, rfl, rfl, Nat.zero_le _⟩
 ·rintro J hJ n t h ⟨k, t0, t1, t5, rfl, rfl, hk⟩
  by_cases hlt : k < xs.length
  ·simp (disch := omega) only [t0, t1, t5, hlt, GCell.cells, Ex_cond, go_sem, Nat.reduceEqDiff, Nat.reduceAdd, reduceCtorEq, ↓reduceIte, wrap_in]
   refine PureCall.q (eqCell_ok xs[k] (by have := szList_mem (f := GCell.sz) (List.getElem_mem hlt); omega) _) ?_
   simp (disch := omega) only [go_sem]
   exact ⟨xs.length - (k + 1), by omega, hJ _ _ _ ⟨k + 1, by simp [upd, t0], by simp [upd, t1], by simp [upd], rfl, rfl, by omega⟩⟩
  ·simp (disch := omega) only [t0, t1, t5, hlt, Ex_cond, go_sem, Nat.reduceEqDiff, reduceCtorEq, ↓reduceIte, wrap_in]
   exact resolve_val _ _

theorem szLevel_ok (x : GLevel) (l : Int) (h0 : 0 ≤ l) (h1 : l ≤ 1048576) (hw : GLevel.wf x) (h : List Row) : PureCall Tryz.prog 96 [.agg (GLevel.cells x), .val (.int .i64 l)] h (.val (.int .i64 (szR (GLevel.sz x) l))) := by
 obtain ⟨w_Saved, _⟩ := hw
 have hsz : GLevel.sz x = (szList GBind.sz) x.Saved := rfl
 refine pure_fn mixed Tryz.func96 low96 rfl rfl ?_ h
 simp (disch := omega) only [lf96, c96, GLevel.cells, go_sem, Nat.reduceEqDiff, Int.reduceNeg, ↓reduceIte]
 refine PureCall.call (szBindS_ok x.Saved (l) (by omega) (by omega) w_Saved _) ?_
 by_cases hn_Saved : ((szList GBind.sz) x.Saved : Int) ≤ l
 case neg =>
  rw [szR_neg (n := (szList GBind.sz) x.Saved) (l := l) (by omega)]
  simp (disch := omega) only [Ex_cond, go_sem, Nat.reduceEqDiff, Int.reduceNeg, ↓reduceIte]
  rw [szR_neg (by omega)]; exact resolve_val _ _
 rw [szR_pos (n := (szList GBind.sz) x.Saved) (l := l) hn_Saved]
 simp (disch := omega) only [Ex_cond, go_sem, Nat.reduceEqDiff, Int.reduceNeg, ↓reduceIte]
 refine ⟨fun hn => absurd hn (by omega), fun _ => ?_⟩
 rw [szR_pos (by omega), hsz]
 have hfin : l - (((szList GBind.sz) x.Saved : Nat) : Int) = l - (szList GBind.sz) x.Saved := by omega
 rw [hfin]; exact resolve_val _ _

theorem toLevel_ok (x : GLevel) (hb : GLevel.sz x ≤ 1048576) (h : List Row) : PureCall Tryz.prog 103 [.agg (GLevel.cells x)] h (.agg (GLevel.cells x)) := by
 have hsz : GLevel.sz x = (szList GBind.sz) x.Saved := rfl
 refine pure_fn mixed Tryz.func103 low103 rfl rfl ?_ h
 simp (disch := omega) only [lf103, c103, GLevel.cells, go_sem, Nat.reduceEqDiff, Nat.reduceAdd, ↓reduceIte]
 refine PureCall.call (toBindS_ok x.Saved (by omega) _) ?_
 simp (disch := omega) only [go_sem, Nat.reduceEqDiff, ↓reduceIte, post_cell]
 exact resolve_agg _ _ rfl

theorem eqLevel_ok (x : GLevel) (hb : GLevel.sz x ≤ 1048576) (h : List Row) : PureCall Tryz.prog 114 [.agg (GLevel.cells x), .agg (GLevel.cells x)] h (.val (.bool true)) := by
 have hsz : GLevel.sz x = (szList GBind.sz) x.Saved := rfl
 refine pure_fn mixed Tryz.func114 low114 rfl rfl ?_ h
 simp (disch := omega) only [lf114, c114, GLevel.cells, go_sem, Nat.reduceEqDiff, ↓reduceIte]
 refine PureCall.call (eqBindS_ok x.Saved (by omega) _) ?_
 simp (disch := omega) only [Ex_cond, go_sem, ↓reduceIte]
 exact resolve_val _ _

theorem szLevelS_ok (xs : List GLevel) (l : Int) (h0 : 0 ≤ l) (h1 : l ≤ 1048576) (hw : wfList GLevel.wf xs) (h : List Row) : PureCall Tryz.prog 45 [.list 0 1 (xs.map GLevel.cells), .val (.int .i64 l)] h (.val (.int .i64 (szR (szList GLevel.sz xs) l))) := by
 obtain ⟨hx, hs⟩ := hw
 refine pure_fn mixed Tryz.func45 low45 rfl rfl ?_ h
 simp (disch := omega) only [lf45, c45, Ex_cond, go_sem, Nat.reduceEqDiff, reduceCtorEq, Int.reduceNeg, ↓reduceIte, wrap_in]
 refine ⟨fun hn => ?_, fun hn => ?_⟩
 ·rw [szR_neg (by simp only [szList]; omega)]; exact resolve_val _ _
 ·refine Ex_loop (fun n t h => ∃ (k : Nat) (m : Int), t 0 = .list 0 1 (xs.map GLevel.cells) ∧ t 5 = .val (.int .i64 k) ∧ t 1 = .val (.int .i64 m) ∧ h = [] ∧ n = xs.length - k ∧ k ≤ xs.length ∧ 0 ≤ m ∧ m ≤ 1048576 ∧ szR (szList GLevel.sz xs) l = szR (sumOf GLevel.sz (xs.drop k)) m) xs.length ?_ ?_
  ·exact ⟨0, l - xs.length, rfl, rfl, rfl, rfl, rfl, Nat.zero_le _, by omega, by omega, szR_sub (by omega)⟩
  ·rintro J hJ n t h ⟨k, m, t0, t5, t1, rfl, rfl, hk, hm0, hm1, hS⟩
   by_cases hlt : k < xs.length
   ·have hd := sumOf_drop GLevel.sz xs k hlt
    have hwk := hs _ (List.getElem_mem hlt)
    rw [hd] at hS
    simp (disch := omega) only [t0, t5, t1, hlt, GLevel.cells, Ex_cond, go_sem, Nat.reduceEqDiff, reduceCtorEq, Int.reduceNeg, ↓reduceIte]
    refine PureCall.call (szLevel_ok xs[k] m hm0 hm1 hwk []) ?_
    by_cases hc : (GLevel.sz xs[k] : Int) ≤ m
    ·rw [szR_pos (n := GLevel.sz xs[k]) (l := m) hc]
     simp (disch := omega) only [t5, Ex_cond, go_sem, Nat.reduceEqDiff, Int.reduceNeg, ↓reduceIte, wrap_in]
     refine ⟨fun hn2 => absurd hn2 (by omega), fun _ => ?_⟩
     exact ⟨xs.length - (k + 1), by omega, hJ _ _ _ ⟨k + 1, m - GLevel.sz xs[k], by simp [upd, t0], by simp [upd], by simp [upd], rfl, rfl, by omega, by omega, by omega, by rw [hS, szR_sub (by omega)]⟩⟩
    ·rw [szR_neg (n := GLevel.sz xs[k]) (l := m) (by omega)]
     simp (disch := omega) only [t5, Ex_cond, go_sem, Nat.reduceEqDiff, Int.reduceNeg, ↓reduceIte, wrap_in]
     rw [hS, szR_neg (by omega)]; exact resolve_val _ _
   ·simp (disch := omega) only [t0, t5, t1, hlt, Ex_cond, go_sem, Nat.reduceEqDiff, reduceCtorEq, Int.reduceNeg, ↓reduceIte]
    rw [hS, List.drop_eq_nil_of_le (by omega), szR_pos (by simp only [sumOf]; omega)]
    simp only [sumOf, Int.natCast_zero, Int.sub_zero]
    exact resolve_val _ _

theorem toLevelS_ok (xs : List GLevel) (hb : (szList GLevel.sz) xs ≤ 1048576) (h : List Row) : PureCall Tryz.prog 49 [.list 0 1 (xs.map GLevel.cells)] h (.list 0 1 (xs.map GLevel.cells)) := by
 have hx := Nat.le_trans (szList_length (f := GLevel.sz) (xs := xs)) hb
 refine pure_fn mixed Tryz.func49 low49 rfl rfl ?_ h
 simp (disch := omega) only [lf49, c49, go_sem, reduceCtorEq, ↓reduceIte]
 refine ⟨by omega, by omega, ?_⟩
 refine Ex_loop (fun n t h => ∃ k : Nat, t 0 = .list 0 1 (xs.map GLevel.cells) ∧ t 3 = .own 0 xs.length ∧ t 4 = .val (.int .i64 k) ∧ h = [⟨82, 1, fillTo (xs.map GLevel.cells) [.val (.slice none 0 0)] k⟩] ∧ n = xs.length - k ∧ k ≤ xs.length) xs.length ?_ ?_
 ·exact ⟨0, rfl, rfl, rfl, by rw [fillTo_zero]; simp, rfl, Nat.zero_le _⟩
 ·rintro J hJ n t h ⟨k, t0, t3, t4, rfl, rfl, hk⟩
  have fl : (fillTo (xs.map GLevel.cells) [.val (.slice none 0 0)] k).length = xs.length := by rw [fillTo_length _ _ (by simpa using hk)]; simp
  by_cases hlt : k < xs.length
  ·have fg : (fillTo (xs.map GLevel.cells) [.val (.slice none 0 0)] k)[k]? = some [.val (.slice none 0 0)] := fillTo_get _ _ (by simpa using hlt)
   have fs := fillTo_set' (xs.map GLevel.cells) [.val (.slice none 0 0)] (GLevel.cells xs[k]) (k := k) (by rw [List.getElem?_map, List.getElem?_eq_getElem hlt]; rfl)
   simp only [GLevel.cells] at fs
   simp (disch := omega) only [t0, t3, t4, hlt, GLevel.cells, Ex_cond, go_sem, Nat.reduceEqDiff, reduceCtorEq, ↓reduceIte]
   refine PureCall.call (toLevel_ok xs[k] (by have := szList_mem (f := GLevel.sz) (List.getElem_mem hlt); omega) _) ?_
   simp (disch := omega) only [t4, hlt, fl, fg, fs, GLevel.cells, go_sem, Nat.reduceEqDiff, ↓reduceIte, wrap_in]
   exact ⟨xs.length - (k + 1), by omega, hJ _ _ _ ⟨k + 1, by simp [upd, t0], by simp [upd, t3], by simp [upd], rfl, rfl, by omega⟩⟩
  ·simp (disch := omega) only [t0, t3, t4, hlt, Ex_cond, go_sem, Nat.reduceEqDiff, reduceCtorEq, ↓reduceIte]
   have ff : fillTo (xs.map GLevel.cells) [.val (.slice none 0 0)] k = xs.map GLevel.cells := fillTo_all _ _ (by simp; omega)
   rw [ff]
   exact resolve_own (r := ⟨82, 1, xs.map GLevel.cells⟩) rfl (by simp) (by intro e he; obtain ⟨x, _, q⟩ := List.mem_map.1 he; subst q; rfl)

theorem eqLevelS_ok (xs : List GLevel) (hb : (szList GLevel.sz) xs ≤ 1048576) (h : List Row) : PureCall Tryz.prog 55 [.list 0 1 (xs.map GLevel.cells), .list 0 1 (xs.map GLevel.cells)] h (.val (.bool true)) := by
 have hx := Nat.le_trans (szList_length (f := GLevel.sz) (xs := xs)) hb
 refine pure_fn mixed Tryz.func55 low55 rfl rfl ?_ h
 simp (disch := omega) only [lf55, c55, Ex_cond, go_sem, Nat.reduceEqDiff, reduceCtorEq, ↓reduceIte]
 refine Ex_loop (fun n t h => ∃ k : Nat, t 0 = .list 0 1 (xs.map GLevel.cells) ∧ t 1 = .list 0 1 (xs.map GLevel.cells) ∧ t 5 = .val (.int .i64 k) ∧ h = [] ∧ n = xs.length - k ∧ k ≤ xs.length) xs.length ?_ ?_
 ·exact ⟨0, rfl, rfl, rfl, rfl, rfl, Nat.zero_le _⟩
 ·rintro J hJ n t h ⟨k, t0, t1, t5, rfl, rfl, hk⟩
  by_cases hlt : k < xs.length
  ·simp (disch := omega) only [t0, t1, t5, hlt, GLevel.cells, Ex_cond, go_sem, Nat.reduceEqDiff, reduceCtorEq, ↓reduceIte, wrap_in]
   refine PureCall.q (eqLevel_ok xs[k] (by have := szList_mem (f := GLevel.sz) (List.getElem_mem hlt); omega) _) ?_
   simp (disch := omega) only [go_sem]
   exact ⟨xs.length - (k + 1), by omega, hJ _ _ _ ⟨k + 1, by simp [upd, t0], by simp [upd, t1], by simp [upd], rfl, rfl, by omega⟩⟩
  ·simp (disch := omega) only [t0, t1, t5, hlt, Ex_cond, go_sem, Nat.reduceEqDiff, reduceCtorEq, ↓reduceIte, wrap_in]
   exact resolve_val _ _

theorem szLocals_ok (x : GLocals) (l : Int) (h0 : 0 ≤ l) (h1 : l ≤ 1048576) (hw : GLocals.wf x) (h : List Row) : PureCall Tryz.prog 10 [.agg (GLocals.cells x), .val (.int .i64 l)] h (.val (.int .i64 (szR (GLocals.sz x) l))) := by
 obtain ⟨w_Next, w_Binds, w_Cells, w_Levels, _⟩ := hw
 have hsz : GLocals.sz x = (szList GBind.sz) x.Binds + (szList GCell.sz) x.Cells + (szList GLevel.sz) x.Levels := rfl
 refine pure_fn mixed Tryz.func10 low10 rfl rfl ?_ h
 simp (disch := omega) only [lf10, c10, GLocals.cells, go_sem, Nat.reduceEqDiff, Nat.reduceAdd, Int.reduceNeg, ↓reduceIte]
 refine PureCall.call (szBindS_ok x.Binds (l) (by omega) (by omega) w_Binds _) ?_
 by_cases hn_Binds : ((szList GBind.sz) x.Binds : Int) ≤ l
 case neg =>
  rw [szR_neg (n := (szList GBind.sz) x.Binds) (l := l) (by omega)]
  simp (disch := omega) only [Ex_cond, go_sem, Nat.reduceEqDiff, Int.reduceNeg, ↓reduceIte]
  rw [szR_neg (by omega)]; exact resolve_val _ _
 rw [szR_pos (n := (szList GBind.sz) x.Binds) (l := l) hn_Binds]
 simp (disch := omega) only [Ex_cond, go_sem, Nat.reduceEqDiff, Int.reduceNeg, ↓reduceIte]
 refine ⟨fun hn => absurd hn (by omega), fun _ => ?_⟩
 refine PureCall.call (szCellS_ok x.Cells (l - (szList GBind.sz) x.Binds) (by omega) (by omega) w_Cells _) ?_
 by_cases hn_Cells : ((szList GCell.sz) x.Cells : Int) ≤ l - (szList GBind.sz) x.Binds
 case neg =>
  rw [szR_neg (n := (szList GCell.sz) x.Cells) (l := l - (szList GBind.sz) x.Binds) (by omega)]
  simp (disch := omega) only [Ex_cond, go_sem, Nat.reduceEqDiff, Int.reduceNeg, ↓reduceIte]
  rw [szR_neg (by omega)]; exact resolve_val _ _
 rw [szR_pos (n := (szList GCell.sz) x.Cells) (l := l - (szList GBind.sz) x.Binds) hn_Cells]
 simp (disch := omega) only [Ex_cond, go_sem, Nat.reduceEqDiff, Int.reduceNeg, ↓reduceIte]
 refine ⟨fun hn => absurd hn (by omega), fun _ => ?_⟩
 refine PureCall.call (szLevelS_ok x.Levels (l - (szList GBind.sz) x.Binds - (szList GCell.sz) x.Cells) (by omega) (by omega) w_Levels _) ?_
 by_cases hn_Levels : ((szList GLevel.sz) x.Levels : Int) ≤ l - (szList GBind.sz) x.Binds - (szList GCell.sz) x.Cells
 case neg =>
  rw [szR_neg (n := (szList GLevel.sz) x.Levels) (l := l - (szList GBind.sz) x.Binds - (szList GCell.sz) x.Cells) (by omega)]
  simp (disch := omega) only [Ex_cond, go_sem, Nat.reduceEqDiff, Int.reduceNeg, ↓reduceIte]
  rw [szR_neg (by omega)]; exact resolve_val _ _
 rw [szR_pos (n := (szList GLevel.sz) x.Levels) (l := l - (szList GBind.sz) x.Binds - (szList GCell.sz) x.Cells) hn_Levels]
 simp (disch := omega) only [Ex_cond, go_sem, Nat.reduceEqDiff, Int.reduceNeg, ↓reduceIte]
 refine ⟨fun hn => absurd hn (by omega), fun _ => ?_⟩
 rw [szR_pos (by omega), hsz]
 have hfin : l - (((szList GBind.sz) x.Binds + (szList GCell.sz) x.Cells + (szList GLevel.sz) x.Levels : Nat) : Int) = l - (szList GBind.sz) x.Binds - (szList GCell.sz) x.Cells - (szList GLevel.sz) x.Levels := by omega
 rw [hfin]; exact resolve_val _ _

theorem toLocals_ok (x : GLocals) (hb : GLocals.sz x ≤ 1048576) (h : List Row) : PureCall Tryz.prog 12 [.agg (GLocals.cells x)] h (.agg (GLocals.cells x)) := by
 have hsz : GLocals.sz x = (szList GBind.sz) x.Binds + (szList GCell.sz) x.Cells + (szList GLevel.sz) x.Levels := rfl
 refine pure_fn mixed Tryz.func12 low12 rfl rfl ?_ h
 simp (disch := omega) only [lf12, c12, GLocals.cells, go_sem, Nat.reduceEqDiff, Nat.reduceAdd, Nat.reduceLeDiff, ↓reduceIte]
 refine PureCall.call (toBindS_ok x.Binds (by omega) _) ?_
 simp (disch := omega) only [go_sem, Nat.reduceEqDiff, Nat.reduceAdd, Nat.reduceLeDiff, ↓reduceIte]
 refine PureCall.call (toCellS_ok x.Cells (by omega) _) ?_
 simp (disch := omega) only [go_sem, Nat.reduceEqDiff, Nat.reduceAdd, Nat.reduceLeDiff, ↓reduceIte]
 refine PureCall.call (toLevelS_ok x.Levels (by omega) _) ?_
 simp (disch := omega) only [go_sem, Nat.reduceEqDiff, Nat.reduceAdd, ↓reduceIte, post_cell]
 exact resolve_agg _ _ rfl

theorem eqLocals_ok (x : GLocals) (hb : GLocals.sz x ≤ 1048576) (h : List Row) : PureCall Tryz.prog 14 [.agg (GLocals.cells x), .agg (GLocals.cells x)] h (.val (.bool true)) := by
 have hsz : GLocals.sz x = (szList GBind.sz) x.Binds + (szList GCell.sz) x.Cells + (szList GLevel.sz) x.Levels := rfl
 refine pure_fn mixed Tryz.func14 low14 rfl rfl ?_ h
 simp (disch := omega) only [lf14, c14, GLocals.cells, Ex_cond, go_sem, Nat.reduceEqDiff, Nat.reduceAdd, ↓reduceIte]
 refine PureCall.call (eqBindS_ok x.Binds (by omega) _) ?_
 simp (disch := omega) only [Ex_cond, go_sem, Nat.reduceEqDiff, ↓reduceIte]
 refine PureCall.call (eqCellS_ok x.Cells (by omega) _) ?_
 simp (disch := omega) only [Ex_cond, go_sem, Nat.reduceEqDiff, ↓reduceIte]
 refine PureCall.call (eqLevelS_ok x.Levels (by omega) _) ?_
 simp (disch := omega) only [Ex_cond, go_sem, ↓reduceIte]
 exact resolve_val _ _

end Go.Proofs.YtclhpcfpchpbnaaGreatDoor
