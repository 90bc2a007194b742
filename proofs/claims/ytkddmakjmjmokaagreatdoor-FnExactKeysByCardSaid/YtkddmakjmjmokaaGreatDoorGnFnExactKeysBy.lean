/-
  Contracts of functions of this program, over abstract values. Conditions: as each theorem says.
-/
import Derived.Test.YtkddmakjmjmokaaGreatDoorBase
namespace Go.Proofs.YtkddmakjmjmokaaGreatDoor
open Go.AW
set_option linter.unusedVariables false
set_option linter.unusedSimpArgs false
set_option maxRecDepth 20000


def c_laws_szStringS : LC :=
 .seq (.ops [⟨some 4, none, .mov (.const (.int .i64 0))⟩]) (.seq (.ops [⟨some 6, none, .mov (.tmp 1)⟩, ⟨some 7, none, .mov (.tmp 0)⟩, ⟨some 8, none, .lenSl (.tmp 7)⟩, ⟨some 9, none, .bin .sub false (.tmp 6) (.tmp 8)⟩,
 ⟨some 1, none, .mov (.tmp 9)⟩]) (.seq (.seq (.ops [⟨some 10, none, .mov (.tmp 1)⟩, ⟨some 11, none, .bin .lss false (.tmp 10) (.const (.int .i64 0))⟩]) (.cond (.tmp 11) (.seq (.ops [⟨some 4, none, .mov (.const (.int .i64
 (-1)))⟩]) (.ret)) (.skip))) (.seq (.seq (.ops [⟨some 5, none, .mov (.const (.int .i64 0))⟩]) (.block 0 (.loop (.seq (.seq (.ops [⟨some 12, none, .mov (.tmp 5)⟩, ⟨some 13, none, .mov (.tmp 0)⟩, ⟨some 14, none, .lenSl (.tmp
 13)⟩, ⟨some 15, none, .bin .lss false (.tmp 12) (.tmp 14)⟩]) (.cond (.tmp 15) (.skip) (.exit 0))) (.seq (.block 1 (.seq (.ops [⟨some 18, none, .mov (.tmp 1)⟩, ⟨some 19, none, .mov (.tmp 0)⟩, ⟨some 20, none, .mov (.tmp
 5)⟩, ⟨some 21, none, .indexAddr 1 (.tmp 19) (.tmp 20)⟩, ⟨some 22, none, .load none (.tmp 21)⟩, ⟨some 23, none, .lenStr (.tmp 22)⟩, ⟨some 24, none, .bin .sub false (.tmp 18) (.tmp 23)⟩, ⟨some 1, none, .mov (.tmp 24)⟩])
 (.seq (.ops [⟨some 25, none, .mov (.tmp 1)⟩, ⟨some 26, none, .bin .lss false (.tmp 25) (.const (.int .i64 0))⟩]) (.cond (.tmp 26) (.seq (.ops [⟨some 4, none, .mov (.const (.int .i64 (-1)))⟩]) (.ret)) (.skip))))) (.ops
 [⟨some 16, none, .mov (.tmp 5)⟩, ⟨some 17, none, .bin .add false (.tmp 16) (.const (.int .i64 1))⟩, ⟨some 5, none, .mov (.tmp 17)⟩])))))) (.seq (.ops [⟨some 27, none, .mov (.tmp 1)⟩, ⟨some 4, none, .mov (.tmp 27)⟩])
 (.ret)))))
def lf_laws_szStringS : LF := { np := 2, N := 28, body := c_laws_szStringS, res := [.tmp 4] }
theorem low_laws_szStringS : LowF Tryz.prog Tryz.f18 lf_laws_szStringS := LowF.mk' (by kernel_rfl) (by kernel_rfl) (by kernel_rfl) (by decide)

def c_laws_toStringS : LC :=
 .seq (.ops [⟨some 2, none, .mov (.const (.slice none 0 0))⟩]) (.seq (.ops [⟨some 5, none, .mov (.tmp 0)⟩, ⟨some 6, none, .lenSl (.tmp 5)⟩, ⟨some 7, none, .mkSlice 9 1 16 (.string ⟨#[]⟩) (.tmp 6) (.tmp 6)⟩, ⟨some 3, none,
 .mov (.tmp 7)⟩]) (.seq (.seq (.ops [⟨some 4, none, .mov (.const (.int .i64 0))⟩]) (.block 0 (.loop (.seq (.seq (.ops [⟨some 8, none, .mov (.tmp 4)⟩, ⟨some 9, none, .mov (.tmp 0)⟩, ⟨some 10, none, .lenSl (.tmp 9)⟩, ⟨some
 11, none, .bin .lss false (.tmp 8) (.tmp 10)⟩]) (.cond (.tmp 11) (.skip) (.exit 0))) (.seq (.block 1 (.ops [⟨some 14, none, .mov (.tmp 3)⟩, ⟨some 15, none, .mov (.tmp 4)⟩, ⟨some 16, none, .mov (.tmp 0)⟩, ⟨some 17, none,
 .mov (.tmp 4)⟩, ⟨some 18, none, .indexAddr 1 (.tmp 16) (.tmp 17)⟩, ⟨some 19, none, .load none (.tmp 18)⟩, ⟨some 20, none, .indexAddr 1 (.tmp 14) (.tmp 15)⟩, ⟨none, none, .store 1 (.tmp 20) (.tmp 19)⟩])) (.ops [⟨some 12,
 none, .mov (.tmp 4)⟩, ⟨some 13, none, .bin .add false (.tmp 12) (.const (.int .i64 1))⟩, ⟨some 4, none, .mov (.tmp 13)⟩])))))) (.seq (.ops [⟨some 21, none, .mov (.tmp 3)⟩, ⟨some 2, none, .mov (.tmp 21)⟩]) (.ret))))
def lf_laws_toStringS : LF := { np := 1, N := 22, body := c_laws_toStringS, res := [.tmp 2] }
theorem low_laws_toStringS : LowF Tryz.prog Tryz.f25 lf_laws_toStringS := LowF.mk' (by kernel_rfl) (by kernel_rfl) (by kernel_rfl) (by decide)

def c_laws_eqStringS : LC :=
 .seq (.ops [⟨some 4, none, .mov (.const (.bool false))⟩]) (.seq (.seq (.ops [⟨some 6, none, .mov (.tmp 0)⟩, ⟨some 7, none, .lenSl (.tmp 6)⟩, ⟨some 8, none, .mov (.tmp 1)⟩, ⟨some 9, none, .lenSl (.tmp 8)⟩, ⟨some 10, none,
 .bin .neq false (.tmp 7) (.tmp 9)⟩]) (.cond (.tmp 10) (.seq (.ops [⟨some 4, none, .mov (.const (.bool false))⟩]) (.ret)) (.skip))) (.seq (.seq (.ops [⟨some 5, none, .mov (.const (.int .i64 0))⟩]) (.block 0 (.loop (.seq
 (.seq (.ops [⟨some 11, none, .mov (.tmp 5)⟩, ⟨some 12, none, .mov (.tmp 0)⟩, ⟨some 13, none, .lenSl (.tmp 12)⟩, ⟨some 14, none, .bin .lss false (.tmp 11) (.tmp 13)⟩]) (.cond (.tmp 14) (.skip) (.exit 0))) (.seq (.block 1
 (.seq (.dops [⟨some 17, none, .mov (.tmp 0)⟩, ⟨some 18, none, .mov (.tmp 5)⟩, ⟨some 19, none, .indexAddr 1 (.tmp 17) (.tmp 18)⟩, ⟨some 20, none, .load none (.tmp 19)⟩, ⟨some 21, none, .mov (.tmp 1)⟩, ⟨some 22, none, .mov
 (.tmp 5)⟩, ⟨some 23, none, .indexAddr 1 (.tmp 21) (.tmp 22)⟩, ⟨some 24, none, .load none (.tmp 23)⟩, ⟨some 25, none, .bin .neq false (.tmp 20) (.tmp 24)⟩]) (.cond (.tmp 25) (.seq (.ops [⟨some 4, none, .mov (.const (.bool
 false))⟩]) (.ret)) (.skip)))) (.ops [⟨some 15, none, .mov (.tmp 5)⟩, ⟨some 16, none, .bin .add false (.tmp 15) (.const (.int .i64 1))⟩, ⟨some 5, none, .mov (.tmp 16)⟩])))))) (.seq (.ops [⟨some 4, none, .mov (.const (.bool
 true))⟩]) (.ret))))
def lf_laws_eqStringS : LF := { np := 2, N := 26, body := c_laws_eqStringS, res := [.tmp 4] }
theorem low_laws_eqStringS : LowF Tryz.prog Tryz.f10 lf_laws_eqStringS := LowF.mk' (by kernel_rfl) (by kernel_rfl) (by kernel_rfl) (by decide)

def c_laws_szTable : LC :=
 .seq (.ops [⟨some 2, none, .box 27 (.tmp 0)⟩, ⟨some 4, none, .mov (.const (.int .i64 0))⟩]) (.seq (.ops [⟨some 5, none, .mov (.tmp 1)⟩, ⟨some 6, none, .fieldAddr 0 (.tmp 2)⟩, ⟨some 7, none, .load none (.tmp 6)⟩, ⟨some 8,
 none, .lenStr (.tmp 7)⟩, ⟨some 9, none, .bin .sub false (.tmp 5) (.tmp 8)⟩, ⟨some 1, none, .mov (.tmp 9)⟩]) (.seq (.seq (.ops [⟨some 10, none, .mov (.tmp 1)⟩, ⟨some 11, none, .bin .lss false (.tmp 10) (.const (.int .i64
 0))⟩]) (.cond (.tmp 11) (.seq (.ops [⟨some 4, none, .mov (.const (.int .i64 (-1)))⟩]) (.ret)) (.skip))) (.seq (.ops [⟨some 12, none, .mov (.tmp 1)⟩, ⟨some 13, none, .fieldAddr 1 (.tmp 2)⟩, ⟨some 14, none, .load none (.tmp
 13)⟩, ⟨some 15, none, .lenStr (.tmp 14)⟩, ⟨some 16, none, .bin .sub false (.tmp 12) (.tmp 15)⟩, ⟨some 1, none, .mov (.tmp 16)⟩]) (.seq (.seq (.ops [⟨some 17, none, .mov (.tmp 1)⟩, ⟨some 18, none, .bin .lss false (.tmp 17)
 (.const (.int .i64 0))⟩]) (.cond (.tmp 18) (.seq (.ops [⟨some 4, none, .mov (.const (.int .i64 (-1)))⟩]) (.ret)) (.skip))) (.seq (.ops [⟨some 19, none, .fieldAddr 2 (.tmp 2)⟩, ⟨some 20, none, .load none (.tmp 19)⟩, ⟨some
 21, none, .mov (.tmp 1)⟩, ⟨some 22, none, .call 18 [.tmp 20, .tmp 21]⟩, ⟨some 1, none, .mov (.tmp 22)⟩]) (.seq (.seq (.ops [⟨some 23, none, .mov (.tmp 1)⟩, ⟨some 24, none, .bin .lss false (.tmp 23) (.const (.int .i64
 0))⟩]) (.cond (.tmp 24) (.seq (.ops [⟨some 4, none, .mov (.const (.int .i64 (-1)))⟩]) (.ret)) (.skip))) (.seq (.ops [⟨some 25, none, .fieldAddr 3 (.tmp 2)⟩, ⟨some 26, none, .load none (.tmp 25)⟩, ⟨some 27, none, .mov
 (.tmp 1)⟩, ⟨some 28, none, .call 18 [.tmp 26, .tmp 27]⟩, ⟨some 1, none, .mov (.tmp 28)⟩]) (.seq (.seq (.ops [⟨some 29, none, .mov (.tmp 1)⟩, ⟨some 30, none, .bin .lss false (.tmp 29) (.const (.int .i64 0))⟩]) (.cond (.tmp
 30) (.seq (.ops [⟨some 4, none, .mov (.const (.int .i64 (-1)))⟩]) (.ret)) (.skip))) (.seq (.ops [⟨some 31, none, .mov (.tmp 1)⟩, ⟨some 4, none, .mov (.tmp 31)⟩]) (.ret))))))))))
def lf_laws_szTable : LF := { np := 2, N := 32, body := c_laws_szTable, res := [.tmp 4] }
theorem low_laws_szTable : LowF Tryz.prog Tryz.f5 lf_laws_szTable := LowF.mk' (by kernel_rfl) (by kernel_rfl) (by kernel_rfl) (by decide)

def c_laws_toTable : LC :=
 .seq (.ops [⟨some 1, none, .box 27 (.tmp 0)⟩, ⟨some 2, none, .alloc 36 (.agg #[.string ⟨#[]⟩, .string ⟨#[]⟩, .slice none 0 0, .slice none 0 0])⟩]) (.seq (.ops [⟨some 3, none, .alloc 36 (.agg #[.string ⟨#[]⟩, .string
 ⟨#[]⟩, .slice none 0 0, .slice none 0 0])⟩]) (.seq (.ops [⟨some 4, none, .fieldAddr 0 (.tmp 1)⟩, ⟨some 5, none, .load none (.tmp 4)⟩, ⟨some 6, none, .fieldAddr 0 (.tmp 3)⟩, ⟨none, none, .store 1 (.tmp 6) (.tmp 5)⟩]) (.seq
 (.ops [⟨some 7, none, .fieldAddr 1 (.tmp 1)⟩, ⟨some 8, none, .load none (.tmp 7)⟩, ⟨some 9, none, .fieldAddr 1 (.tmp 3)⟩, ⟨none, none, .store 1 (.tmp 9) (.tmp 8)⟩]) (.seq (.ops [⟨some 10, none, .fieldAddr 2 (.tmp 1)⟩,
 ⟨some 11, none, .load none (.tmp 10)⟩, ⟨some 12, none, .call 25 [.tmp 11]⟩, ⟨some 13, none, .fieldAddr 2 (.tmp 3)⟩, ⟨none, none, .store 1 (.tmp 13) (.tmp 12)⟩]) (.seq (.ops [⟨some 14, none, .fieldAddr 3 (.tmp 1)⟩, ⟨some
 15, none, .load none (.tmp 14)⟩, ⟨some 16, none, .call 25 [.tmp 15]⟩, ⟨some 17, none, .fieldAddr 3 (.tmp 3)⟩, ⟨none, none, .store 1 (.tmp 17) (.tmp 16)⟩]) (.seq (.ops [⟨some 18, none, .load (some 4) (.tmp 3)⟩, ⟨none,
 none, .store 4 (.tmp 2) (.tmp 18)⟩]) (.ret)))))))
def lf_laws_toTable : LF := { np := 1, N := 19, body := c_laws_toTable, res := [.cell 2 (some 4)] }
theorem low_laws_toTable : LowF Tryz.prog Tryz.f8 lf_laws_toTable := LowF.mk' (by kernel_rfl) (by kernel_rfl) (by kernel_rfl) (by decide)

def c_laws_eqTable : LC :=
 .seq (.ops [⟨some 2, none, .box 36 (.tmp 0)⟩, ⟨some 3, none, .box 36 (.tmp 1)⟩, ⟨some 4, none, .mov (.const (.bool false))⟩]) (.seq (.seq (.ops [⟨some 5, none, .fieldAddr 0 (.tmp 2)⟩, ⟨some 6, none, .load none (.tmp 5)⟩,
 ⟨some 7, none, .fieldAddr 0 (.tmp 3)⟩, ⟨some 8, none, .load none (.tmp 7)⟩, ⟨some 9, none, .bin .neq false (.tmp 6) (.tmp 8)⟩]) (.cond (.tmp 9) (.seq (.ops [⟨some 4, none, .mov (.const (.bool false))⟩]) (.ret)) (.skip)))
 (.seq (.seq (.ops [⟨some 10, none, .fieldAddr 1 (.tmp 2)⟩, ⟨some 11, none, .load none (.tmp 10)⟩, ⟨some 12, none, .fieldAddr 1 (.tmp 3)⟩, ⟨some 13, none, .load none (.tmp 12)⟩, ⟨some 14, none, .bin .neq false (.tmp 11)
 (.tmp 13)⟩]) (.cond (.tmp 14) (.seq (.ops [⟨some 4, none, .mov (.const (.bool false))⟩]) (.ret)) (.skip))) (.seq (.seq (.ops [⟨some 15, none, .fieldAddr 2 (.tmp 2)⟩, ⟨some 16, none, .load none (.tmp 15)⟩, ⟨some 17, none,
 .fieldAddr 2 (.tmp 3)⟩, ⟨some 18, none, .load none (.tmp 17)⟩, ⟨some 19, none, .call 10 [.tmp 16, .tmp 18]⟩, ⟨some 20, none, .un .not (.tmp 19)⟩]) (.cond (.tmp 20) (.seq (.ops [⟨some 4, none, .mov (.const (.bool
 false))⟩]) (.ret)) (.skip))) (.seq (.seq (.ops [⟨some 21, none, .fieldAddr 3 (.tmp 2)⟩, ⟨some 22, none, .load none (.tmp 21)⟩, ⟨some 23, none, .fieldAddr 3 (.tmp 3)⟩, ⟨some 24, none, .load none (.tmp 23)⟩, ⟨some 25, none,
 .call 10 [.tmp 22, .tmp 24]⟩, ⟨some 26, none, .un .not (.tmp 25)⟩]) (.cond (.tmp 26) (.seq (.ops [⟨some 4, none, .mov (.const (.bool false))⟩]) (.ret)) (.skip))) (.seq (.ops [⟨some 4, none, .mov (.const (.bool true))⟩])
 (.ret))))))
def lf_laws_eqTable : LF := { np := 2, N := 27, body := c_laws_eqTable, res := [.tmp 4] }
theorem low_laws_eqTable : LowF Tryz.prog Tryz.f12 lf_laws_eqTable := LowF.mk' (by kernel_rfl) (by kernel_rfl) (by kernel_rfl) (by decide)

def c_laws_szNode : LC :=
 .seq (.ops [⟨some 2, none, .box 59 (.tmp 0)⟩, ⟨some 4, none, .mov (.const (.int .i64 0))⟩]) (.seq (.ops [⟨some 5, none, .mov (.tmp 1)⟩, ⟨some 6, none, .fieldAddr 0 (.tmp 2)⟩, ⟨some 7, none, .load none (.tmp 6)⟩, ⟨some 8,
 none, .lenStr (.tmp 7)⟩, ⟨some 9, none, .bin .sub false (.tmp 5) (.tmp 8)⟩, ⟨some 1, none, .mov (.tmp 9)⟩]) (.seq (.seq (.ops [⟨some 10, none, .mov (.tmp 1)⟩, ⟨some 11, none, .bin .lss false (.tmp 10) (.const (.int .i64
 0))⟩]) (.cond (.tmp 11) (.seq (.ops [⟨some 4, none, .mov (.const (.int .i64 (-1)))⟩]) (.ret)) (.skip))) (.seq (.ops [⟨some 12, none, .fieldAddr 1 (.tmp 2)⟩, ⟨some 13, none, .load none (.tmp 12)⟩, ⟨some 14, none, .mov
 (.tmp 1)⟩, ⟨some 15, none, .call 18 [.tmp 13, .tmp 14]⟩, ⟨some 1, none, .mov (.tmp 15)⟩]) (.seq (.seq (.ops [⟨some 16, none, .mov (.tmp 1)⟩, ⟨some 17, none, .bin .lss false (.tmp 16) (.const (.int .i64 0))⟩]) (.cond (.tmp
 17) (.seq (.ops [⟨some 4, none, .mov (.const (.int .i64 (-1)))⟩]) (.ret)) (.skip))) (.seq (.ops [⟨some 18, none, .mov (.tmp 1)⟩, ⟨some 19, none, .fieldAddr 2 (.tmp 2)⟩, ⟨some 20, none, .load none (.tmp 19)⟩, ⟨some 21,
 none, .lenStr (.tmp 20)⟩, ⟨some 22, none, .bin .sub false (.tmp 18) (.tmp 21)⟩, ⟨some 1, none, .mov (.tmp 22)⟩]) (.seq (.seq (.ops [⟨some 23, none, .mov (.tmp 1)⟩, ⟨some 24, none, .bin .lss false (.tmp 23) (.const (.int
 .i64 0))⟩]) (.cond (.tmp 24) (.seq (.ops [⟨some 4, none, .mov (.const (.int .i64 (-1)))⟩]) (.ret)) (.skip))) (.seq (.ops [⟨some 25, none, .mov (.tmp 1)⟩, ⟨some 4, none, .mov (.tmp 25)⟩]) (.ret))))))))
def lf_laws_szNode : LF := { np := 2, N := 26, body := c_laws_szNode, res := [.tmp 4] }
theorem low_laws_szNode : LowF Tryz.prog Tryz.f34 lf_laws_szNode := LowF.mk' (by kernel_rfl) (by kernel_rfl) (by kernel_rfl) (by decide)

def c_laws_toNode : LC :=
 .seq (.ops [⟨some 1, none, .box 59 (.tmp 0)⟩, ⟨some 2, none, .alloc 60 (.agg #[.string ⟨#[]⟩, .slice none 0 0, .string ⟨#[]⟩])⟩]) (.seq (.ops [⟨some 3, none, .alloc 60 (.agg #[.string ⟨#[]⟩, .slice none 0 0, .string
 ⟨#[]⟩])⟩]) (.seq (.ops [⟨some 4, none, .fieldAddr 0 (.tmp 1)⟩, ⟨some 5, none, .load none (.tmp 4)⟩, ⟨some 6, none, .fieldAddr 0 (.tmp 3)⟩, ⟨none, none, .store 1 (.tmp 6) (.tmp 5)⟩]) (.seq (.ops [⟨some 7, none, .fieldAddr
 1 (.tmp 1)⟩, ⟨some 8, none, .load none (.tmp 7)⟩, ⟨some 9, none, .call 25 [.tmp 8]⟩, ⟨some 10, none, .fieldAddr 1 (.tmp 3)⟩, ⟨none, none, .store 1 (.tmp 10) (.tmp 9)⟩]) (.seq (.ops [⟨some 11, none, .fieldAddr 2 (.tmp 1)⟩,
 ⟨some 12, none, .load none (.tmp 11)⟩, ⟨some 13, none, .fieldAddr 2 (.tmp 3)⟩, ⟨none, none, .store 1 (.tmp 13) (.tmp 12)⟩]) (.seq (.ops [⟨some 14, none, .load (some 3) (.tmp 3)⟩, ⟨none, none, .store 3 (.tmp 2) (.tmp
 14)⟩]) (.ret))))))
def lf_laws_toNode : LF := { np := 1, N := 15, body := c_laws_toNode, res := [.cell 2 (some 3)] }
theorem low_laws_toNode : LowF Tryz.prog Tryz.f38 lf_laws_toNode := LowF.mk' (by kernel_rfl) (by kernel_rfl) (by kernel_rfl) (by decide)

def c_laws_eqNode : LC :=
 .seq (.ops [⟨some 2, none, .box 60 (.tmp 0)⟩, ⟨some 3, none, .box 60 (.tmp 1)⟩, ⟨some 4, none, .mov (.const (.bool false))⟩]) (.seq (.seq (.ops [⟨some 5, none, .fieldAddr 0 (.tmp 2)⟩, ⟨some 6, none, .load none (.tmp 5)⟩,
 ⟨some 7, none, .fieldAddr 0 (.tmp 3)⟩, ⟨some 8, none, .load none (.tmp 7)⟩, ⟨some 9, none, .bin .neq false (.tmp 6) (.tmp 8)⟩]) (.cond (.tmp 9) (.seq (.ops [⟨some 4, none, .mov (.const (.bool false))⟩]) (.ret)) (.skip)))
 (.seq (.seq (.ops [⟨some 10, none, .fieldAddr 1 (.tmp 2)⟩, ⟨some 11, none, .load none (.tmp 10)⟩, ⟨some 12, none, .fieldAddr 1 (.tmp 3)⟩, ⟨some 13, none, .load none (.tmp 12)⟩, ⟨some 14, none, .call 10 [.tmp 11, .tmp
 13]⟩, ⟨some 15, none, .un .not (.tmp 14)⟩]) (.cond (.tmp 15) (.seq (.ops [⟨some 4, none, .mov (.const (.bool false))⟩]) (.ret)) (.skip))) (.seq (.seq (.ops [⟨some 16, none, .fieldAddr 2 (.tmp 2)⟩, ⟨some 17, none, .load
 none (.tmp 16)⟩, ⟨some 18, none, .fieldAddr 2 (.tmp 3)⟩, ⟨some 19, none, .load none (.tmp 18)⟩, ⟨some 20, none, .bin .neq false (.tmp 17) (.tmp 19)⟩]) (.cond (.tmp 20) (.seq (.ops [⟨some 4, none, .mov (.const (.bool
 false))⟩]) (.ret)) (.skip))) (.seq (.ops [⟨some 4, none, .mov (.const (.bool true))⟩]) (.ret)))))
def lf_laws_eqNode : LF := { np := 2, N := 21, body := c_laws_eqNode, res := [.tmp 4] }
theorem low_laws_eqNode : LowF Tryz.prog Tryz.f51 lf_laws_eqNode := LowF.mk' (by kernel_rfl) (by kernel_rfl) (by kernel_rfl) (by decide)

def c_laws_szNodeS : LC :=
 .seq (.ops [⟨some 4, none, .mov (.const (.int .i64 0))⟩]) (.seq (.ops [⟨some 6, none, .mov (.tmp 1)⟩, ⟨some 7, none, .mov (.tmp 0)⟩, ⟨some 8, none, .lenSl (.tmp 7)⟩, ⟨some 9, none, .bin .sub false (.tmp 6) (.tmp 8)⟩,
 ⟨some 1, none, .mov (.tmp 9)⟩]) (.seq (.seq (.ops [⟨some 10, none, .mov (.tmp 1)⟩, ⟨some 11, none, .bin .lss false (.tmp 10) (.const (.int .i64 0))⟩]) (.cond (.tmp 11) (.seq (.ops [⟨some 4, none, .mov (.const (.int .i64
 (-1)))⟩]) (.ret)) (.skip))) (.seq (.seq (.ops [⟨some 5, none, .mov (.const (.int .i64 0))⟩]) (.block 0 (.loop (.seq (.seq (.ops [⟨some 12, none, .mov (.tmp 5)⟩, ⟨some 13, none, .mov (.tmp 0)⟩, ⟨some 14, none, .lenSl (.tmp
 13)⟩, ⟨some 15, none, .bin .lss false (.tmp 12) (.tmp 14)⟩]) (.cond (.tmp 15) (.skip) (.exit 0))) (.seq (.block 1 (.seq (.ops [⟨some 18, none, .mov (.tmp 0)⟩, ⟨some 19, none, .mov (.tmp 5)⟩, ⟨some 20, none, .indexAddr 3
 (.tmp 18) (.tmp 19)⟩, ⟨some 21, none, .load (some 3) (.tmp 20)⟩, ⟨some 22, none, .mov (.tmp 1)⟩, ⟨some 23, none, .call 34 [.tmp 21, .tmp 22]⟩, ⟨some 1, none, .mov (.tmp 23)⟩]) (.seq (.ops [⟨some 24, none, .mov (.tmp 1)⟩,
 ⟨some 25, none, .bin .lss false (.tmp 24) (.const (.int .i64 0))⟩]) (.cond (.tmp 25) (.seq (.ops [⟨some 4, none, .mov (.const (.int .i64 (-1)))⟩]) (.ret)) (.skip))))) (.ops [⟨some 16, none, .mov (.tmp 5)⟩, ⟨some 17, none,
 .bin .add false (.tmp 16) (.const (.int .i64 1))⟩, ⟨some 5, none, .mov (.tmp 17)⟩])))))) (.seq (.ops [⟨some 26, none, .mov (.tmp 1)⟩, ⟨some 4, none, .mov (.tmp 26)⟩]) (.ret)))))
def lf_laws_szNodeS : LF := { np := 2, N := 27, body := c_laws_szNodeS, res := [.tmp 4] }
theorem low_laws_szNodeS : LowF Tryz.prog Tryz.f17 lf_laws_szNodeS := LowF.mk' (by kernel_rfl) (by kernel_rfl) (by kernel_rfl) (by decide)

def c_laws_toNodeS : LC :=
 .seq (.ops [⟨some 2, none, .mov (.const (.slice none 0 0))⟩]) (.seq (.ops [⟨some 5, none, .mov (.tmp 0)⟩, ⟨some 6, none, .lenSl (.tmp 5)⟩, ⟨some 7, none, .mkSlice 60 3 56 (.agg #[.string ⟨#[]⟩, .slice none 0 0, .string
 ⟨#[]⟩]) (.tmp 6) (.tmp 6)⟩, ⟨some 3, none, .mov (.tmp 7)⟩]) (.seq (.seq (.ops [⟨some 4, none, .mov (.const (.int .i64 0))⟩]) (.block 0 (.loop (.seq (.seq (.ops [⟨some 8, none, .mov (.tmp 4)⟩, ⟨some 9, none, .mov (.tmp
 0)⟩, ⟨some 10, none, .lenSl (.tmp 9)⟩, ⟨some 11, none, .bin .lss false (.tmp 8) (.tmp 10)⟩]) (.cond (.tmp 11) (.skip) (.exit 0))) (.seq (.block 1 (.ops [⟨some 14, none, .mov (.tmp 3)⟩, ⟨some 15, none, .mov (.tmp 4)⟩,
 ⟨some 16, none, .mov (.tmp 0)⟩, ⟨some 17, none, .mov (.tmp 4)⟩, ⟨some 18, none, .indexAddr 3 (.tmp 16) (.tmp 17)⟩, ⟨some 19, none, .load (some 3) (.tmp 18)⟩, ⟨some 20, none, .call 38 [.tmp 19]⟩, ⟨some 21, none, .indexAddr
 3 (.tmp 14) (.tmp 15)⟩, ⟨none, none, .store 3 (.tmp 21) (.tmp 20)⟩])) (.ops [⟨some 12, none, .mov (.tmp 4)⟩, ⟨some 13, none, .bin .add false (.tmp 12) (.const (.int .i64 1))⟩, ⟨some 4, none, .mov (.tmp 13)⟩])))))) (.seq
 (.ops [⟨some 22, none, .mov (.tmp 3)⟩, ⟨some 2, none, .mov (.tmp 22)⟩]) (.ret))))
def lf_laws_toNodeS : LF := { np := 1, N := 23, body := c_laws_toNodeS, res := [.tmp 2] }
theorem low_laws_toNodeS : LowF Tryz.prog Tryz.f24 lf_laws_toNodeS := LowF.mk' (by kernel_rfl) (by kernel_rfl) (by kernel_rfl) (by decide)

def c_laws_eqNodeS : LC :=
 .seq (.ops [⟨some 4, none, .mov (.const (.bool false))⟩]) (.seq (.seq (.ops [⟨some 6, none, .mov (.tmp 0)⟩, ⟨some 7, none, .lenSl (.tmp 6)⟩, ⟨some 8, none, .mov (.tmp 1)⟩, ⟨some 9, none, .lenSl (.tmp 8)⟩, ⟨some 10, none,
 .bin .neq false (.tmp 7) (.tmp 9)⟩]) (.cond (.tmp 10) (.seq (.ops [⟨some 4, none, .mov (.const (.bool false))⟩]) (.ret)) (.skip))) (.seq (.seq (.ops [⟨some 5, none, .mov (.const (.int .i64 0))⟩]) (.block 0 (.loop (.seq
 (.seq (.ops [⟨some 11, none, .mov (.tmp 5)⟩, ⟨some 12, none, .mov (.tmp 0)⟩, ⟨some 13, none, .lenSl (.tmp 12)⟩, ⟨some 14, none, .bin .lss false (.tmp 11) (.tmp 13)⟩]) (.cond (.tmp 14) (.skip) (.exit 0))) (.seq (.block 1
 (.seq (.dops [⟨some 17, none, .mov (.tmp 0)⟩, ⟨some 18, none, .mov (.tmp 5)⟩, ⟨some 19, none, .indexAddr 3 (.tmp 17) (.tmp 18)⟩, ⟨some 20, none, .load (some 3) (.tmp 19)⟩, ⟨some 21, none, .mov (.tmp 1)⟩, ⟨some 22, none,
 .mov (.tmp 5)⟩, ⟨some 23, none, .indexAddr 3 (.tmp 21) (.tmp 22)⟩, ⟨some 24, none, .load (some 3) (.tmp 23)⟩, ⟨some 25, none, .call 51 [.tmp 20, .tmp 24]⟩, ⟨some 26, none, .un .not (.tmp 25)⟩]) (.cond (.tmp 26) (.seq
 (.ops [⟨some 4, none, .mov (.const (.bool false))⟩]) (.ret)) (.skip)))) (.ops [⟨some 15, none, .mov (.tmp 5)⟩, ⟨some 16, none, .bin .add false (.tmp 15) (.const (.int .i64 1))⟩, ⟨some 5, none, .mov (.tmp 16)⟩])))))) (.seq
 (.ops [⟨some 4, none, .mov (.const (.bool true))⟩]) (.ret))))
def lf_laws_eqNodeS : LF := { np := 2, N := 27, body := c_laws_eqNodeS, res := [.tmp 4] }
theorem low_laws_eqNodeS : LowF Tryz.prog Tryz.f31 lf_laws_eqNodeS := LowF.mk' (by kernel_rfl) (by kernel_rfl) (by kernel_rfl) (by decide)

def c_laws_szTree : LC :=
 .seq (.ops [⟨some 2, none, .box 24 (.tmp 0)⟩, ⟨some 4, none, .mov (.const (.int .i64 0))⟩]) (.seq (.ops [⟨some 5, none, .fieldAddr 0 (.tmp 2)⟩, ⟨some 6, none, .load none (.tmp 5)⟩, ⟨some 7, none, .mov (.tmp 1)⟩, ⟨some 8,
 none, .call 17 [.tmp 6, .tmp 7]⟩, ⟨some 1, none, .mov (.tmp 8)⟩]) (.seq (.seq (.ops [⟨some 9, none, .mov (.tmp 1)⟩, ⟨some 10, none, .bin .lss false (.tmp 9) (.const (.int .i64 0))⟩]) (.cond (.tmp 10) (.seq (.ops [⟨some 4,
 none, .mov (.const (.int .i64 (-1)))⟩]) (.ret)) (.skip))) (.seq (.ops [⟨some 11, none, .mov (.tmp 1)⟩, ⟨some 4, none, .mov (.tmp 11)⟩]) (.ret))))
def lf_laws_szTree : LF := { np := 2, N := 12, body := c_laws_szTree, res := [.tmp 4] }
theorem low_laws_szTree : LowF Tryz.prog Tryz.f4 lf_laws_szTree := LowF.mk' (by kernel_rfl) (by kernel_rfl) (by kernel_rfl) (by decide)

def c_laws_toTree : LC :=
 .seq (.ops [⟨some 1, none, .box 24 (.tmp 0)⟩, ⟨some 2, none, .alloc 34 (.agg #[.slice none 0 0])⟩]) (.seq (.ops [⟨some 3, none, .alloc 34 (.agg #[.slice none 0 0])⟩]) (.seq (.ops [⟨some 4, none, .fieldAddr 0 (.tmp 1)⟩,
 ⟨some 5, none, .load none (.tmp 4)⟩, ⟨some 6, none, .call 24 [.tmp 5]⟩, ⟨some 7, none, .fieldAddr 0 (.tmp 3)⟩, ⟨none, none, .store 1 (.tmp 7) (.tmp 6)⟩]) (.seq (.ops [⟨some 8, none, .load (some 1) (.tmp 3)⟩, ⟨none, none,
 .store 1 (.tmp 2) (.tmp 8)⟩]) (.ret))))
def lf_laws_toTree : LF := { np := 1, N := 9, body := c_laws_toTree, res := [.cell 2 (some 1)] }
theorem low_laws_toTree : LowF Tryz.prog Tryz.f7 lf_laws_toTree := LowF.mk' (by kernel_rfl) (by kernel_rfl) (by kernel_rfl) (by decide)

def c_laws_eqTree : LC :=
 .seq (.ops [⟨some 2, none, .box 34 (.tmp 0)⟩, ⟨some 3, none, .box 34 (.tmp 1)⟩, ⟨some 4, none, .mov (.const (.bool false))⟩]) (.seq (.seq (.ops [⟨some 5, none, .fieldAddr 0 (.tmp 2)⟩, ⟨some 6, none, .load none (.tmp 5)⟩,
 ⟨some 7, none, .fieldAddr 0 (.tmp 3)⟩, ⟨some 8, none, .load none (.tmp 7)⟩, ⟨some 9, none, .call 31 [.tmp 6, .tmp 8]⟩, ⟨some 10, none, .un .not (.tmp 9)⟩]) (.cond (.tmp 10) (.seq (.ops [⟨some 4, none, .mov (.const (.bool
 false))⟩]) (.ret)) (.skip))) (.seq (.ops [⟨some 4, none, .mov (.const (.bool true))⟩]) (.ret)))
def lf_laws_eqTree : LF := { np := 2, N := 11, body := c_laws_eqTree, res := [.tmp 4] }
theorem low_laws_eqTree : LowF Tryz.prog Tryz.f11 lf_laws_eqTree := LowF.mk' (by kernel_rfl) (by kernel_rfl) (by kernel_rfl) (by decide)

theorem szStringS_ok (xs : List ByteArray) (l : Int) (h0 : 0 ≤ l) (h1 : l ≤ 1048576) (hw : wfList wfStr xs) (h : List Row) : PureCall Tryz.prog 18 [.list 0 1 (xs.map cStr), .val (.int .i64 l)] h (.val (.int .i64 (szR (szList ByteArray.size xs) l))) := by
  obtain ⟨hx, hs⟩ := hw
  refine pure_fn mixed Tryz.func18 low_laws_szStringS rfl rfl ?_ h
  simp (disch := omega) only [lf_laws_szStringS, c_laws_szStringS, Ex_cond, go_sem, Nat.reduceEqDiff, reduceCtorEq, Int.reduceNeg, ↓reduceIte, wrap_in]
  refine ⟨fun hn => ?_, fun hn => ?_⟩
  · rw [szR_neg (by simp only [szList]; omega)]; exact resolve_val _ _
  · refine Ex_loop (fun n t h => ∃ (k : Nat) (m : Int), t 0 = .list 0 1 (xs.map cStr) ∧ t 5 = .val (.int .i64 k) ∧ t 1 = .val (.int .i64 m) ∧ h = [] ∧ n = xs.length - k ∧ k ≤ xs.length ∧ 0 ≤ m ∧ m ≤ 1048576 ∧ szR (szList ByteArray.size xs) l = szR (sumOf ByteArray.size (xs.drop k)) m) xs.length ?_ ?_
    · exact ⟨0, l - xs.length, rfl, rfl, rfl, rfl, rfl, Nat.zero_le _, by omega, by omega, szR_sub (by omega)⟩
    · rintro J hJ n t h ⟨k, m, t0, t5, t1, rfl, rfl, hk, hm0, hm1, hS⟩
      by_cases hlt : k < xs.length
      · have hd := sumOf_drop ByteArray.size xs k hlt
        have hwk := hs _ (List.getElem_mem hlt)
        rw [hd] at hS
        unfold wfStr at hwk
        simp (disch := omega) only [t0, t5, t1, hlt, Ex_cond, go_sem, Nat.reduceEqDiff, reduceCtorEq, Int.reduceNeg, ↓reduceIte, wrap_in]
        refine ⟨fun hn2 => ?_, fun hn2 => ?_⟩
        · rw [hS, szR_neg (by omega)]; exact resolve_val _ _
        · exact ⟨xs.length - (k + 1), by omega, hJ _ _ _ ⟨k + 1, m - xs[k].size, by simp [upd, t0], by simp [upd], by simp [upd], rfl, rfl, by omega, by omega, by omega, by rw [hS, szR_sub (by omega)]⟩⟩
      · simp (disch := omega) only [t0, t5, t1, hlt, Ex_cond, go_sem, Nat.reduceEqDiff, reduceCtorEq, Int.reduceNeg, ↓reduceIte]
        rw [hS, List.drop_eq_nil_of_le (by omega), szR_pos (by simp only [sumOf]; omega)]
        simp only [sumOf, Int.natCast_zero, Int.sub_zero]
        exact resolve_val _ _

theorem toStringS_ok (xs : List ByteArray) (hb : (szList ByteArray.size) xs ≤ 1048576) (h : List Row) : PureCall Tryz.prog 25 [.list 0 1 (xs.map cStr)] h (.list 0 1 (xs.map cStr)) := by
  have hx := Nat.le_trans (szList_length (f := ByteArray.size) (xs := xs)) hb
  refine pure_fn mixed Tryz.func25 low_laws_toStringS rfl rfl ?_ h
  simp (disch := omega) only [lf_laws_toStringS, c_laws_toStringS, go_sem, reduceCtorEq, ↓reduceIte]
  refine ⟨by omega, by omega, ?_⟩
  refine Ex_loop (fun n t h => ∃ k : Nat, t 0 = .list 0 1 (xs.map cStr) ∧ t 3 = .own 0 xs.length ∧ t 4 = .val (.int .i64 k) ∧ h = [⟨9, 1, fillTo (xs.map cStr) [.val (.string ⟨#[]⟩)] k⟩] ∧ n = xs.length - k ∧ k ≤ xs.length) xs.length ?_ ?_
  · exact ⟨0, rfl, rfl, rfl, by rw [fillTo_zero]; simp, rfl, Nat.zero_le _⟩
  · rintro J hJ n t h ⟨k, t0, t3, t4, rfl, rfl, hk⟩
    have fl : (fillTo (xs.map cStr) [.val (.string ⟨#[]⟩)] k).length = xs.length := by rw [fillTo_length _ _ (by simpa using hk)]; simp
    by_cases hlt : k < xs.length
    · have fg : (fillTo (xs.map cStr) [.val (.string ⟨#[]⟩)] k)[k]? = some [.val (.string ⟨#[]⟩)] := fillTo_get _ _ (by simpa using hlt)
      have fs := fillTo_set' (xs.map cStr) [.val (.string ⟨#[]⟩)] (cStr xs[k]) (k := k) (by rw [List.getElem?_map, List.getElem?_eq_getElem hlt]; rfl)
      simp (disch := omega) only [t0, t3, t4, hlt, fl, fg, Ex_cond, go_sem, Nat.reduceEqDiff, reduceCtorEq, ↓reduceIte, wrap_in]
      try simp (disch := omega) only [fs, go_sem]
      exact ⟨xs.length - (k + 1), by omega, hJ _ _ _ ⟨k + 1, by simp [upd, t0], by simp [upd, t3], by simp [upd], by simp [], rfl, by omega⟩⟩
    · simp (disch := omega) only [t0, t3, t4, hlt, fl, Ex_cond, go_sem, Nat.reduceEqDiff, reduceCtorEq, ↓reduceIte]
      have ff : fillTo (xs.map cStr) [.val (.string ⟨#[]⟩)] k = xs.map cStr := fillTo_all _ _ (by simp; omega)
      rw [ff]
      exact resolve_own (r := ⟨9, 1, xs.map cStr⟩) rfl (by simp) (by intro e he; obtain ⟨x, _, q⟩ := List.mem_map.1 he; subst q; rfl)

theorem eqStringS_ok (xs : List ByteArray) (hb : (szList ByteArray.size) xs ≤ 1048576) (h : List Row) : PureCall Tryz.prog 10 [.list 0 1 (xs.map cStr), .list 0 1 (xs.map cStr)] h (.val (.bool true)) := by
  have hx := Nat.le_trans (szList_length (f := ByteArray.size) (xs := xs)) hb
  refine pure_fn mixed Tryz.func10 low_laws_eqStringS rfl rfl ?_ h
  simp (disch := omega) only [lf_laws_eqStringS, c_laws_eqStringS, Ex_cond, go_sem, Nat.reduceEqDiff, reduceCtorEq, ↓reduceIte]
  refine Ex_loop (fun n t h => ∃ k : Nat, t 0 = .list 0 1 (xs.map cStr) ∧ t 1 = .list 0 1 (xs.map cStr) ∧ t 5 = .val (.int .i64 k) ∧ h = [] ∧ n = xs.length - k ∧ k ≤ xs.length) xs.length ?_ ?_
  · exact ⟨0, rfl, rfl, rfl, rfl, rfl, Nat.zero_le _⟩
  · rintro J hJ n t h ⟨k, t0, t1, t5, rfl, rfl, hk⟩
    by_cases hlt : k < xs.length
    · simp (disch := omega) only [t0, t1, t5, hlt, Ex_cond, go_sem, Nat.reduceEqDiff, reduceCtorEq, ↓reduceIte, wrap_in]
      exact ⟨xs.length - (k + 1), by omega, hJ _ _ _ ⟨k + 1, by simp [upd, t0], by simp [upd, t1], by simp [upd], rfl, rfl, by omega⟩⟩
    · simp (disch := omega) only [t0, t1, t5, hlt, Ex_cond, go_sem, Nat.reduceEqDiff, reduceCtorEq, ↓reduceIte, wrap_in]
      exact resolve_val _ _

theorem szTable_ok (x : GTable) (l : Int) (h0 : 0 ≤ l) (h1 : l ≤ 1048576) (hw : GTable.wf x) (h : List Row) : PureCall Tryz.prog 5 [.agg (GTable.cells x), .val (.int .i64 l)] h (.val (.int .i64 (szR (GTable.sz x) l))) := by
  obtain ⟨w_Name, w_Global, w_Columns, w_Indexes, _⟩ := hw
  have hsz : GTable.sz x = ByteArray.size x.Name + ByteArray.size x.Global + (szList ByteArray.size) x.Columns + (szList ByteArray.size) x.Indexes := rfl
  refine pure_fn mixed Tryz.func5 low_laws_szTable rfl rfl ?_ h
  unfold wfStr at w_Name
  unfold wfStr at w_Global
  simp (disch := omega) only [lf_laws_szTable, c_laws_szTable, GTable.cells, Ex_cond, go_sem, Nat.reduceEqDiff, Nat.reduceAdd, Int.reduceNeg, ↓reduceIte, wrap_in]
  refine ⟨fun hn => ?_, fun hn_Name => ?_⟩
  · rw [szR_neg (by omega)]; exact resolve_val _ _
  try simp (disch := omega) only [wrap_in]
  refine ⟨fun hn => ?_, fun hn_Global => ?_⟩
  · rw [szR_neg (by omega)]; exact resolve_val _ _
  try simp (disch := omega) only [wrap_in]
  refine PureCall.call (szStringS_ok x.Columns (l - ByteArray.size x.Name - ByteArray.size x.Global) (by omega) (by omega) w_Columns _) ?_
  by_cases hn_Columns : ((szList ByteArray.size) x.Columns : Int) ≤ l - ByteArray.size x.Name - ByteArray.size x.Global
  case neg =>
    rw [szR_neg (n := (szList ByteArray.size) x.Columns) (l := l - ByteArray.size x.Name - ByteArray.size x.Global) (by omega)]
    simp (disch := omega) only [Ex_cond, go_sem, Nat.reduceEqDiff, Int.reduceNeg, ↓reduceIte]
    rw [szR_neg (by omega)]; exact resolve_val _ _
  rw [szR_pos (n := (szList ByteArray.size) x.Columns) (l := l - ByteArray.size x.Name - ByteArray.size x.Global) hn_Columns]
  simp (disch := omega) only [Ex_cond, go_sem, Nat.reduceEqDiff, Int.reduceNeg, ↓reduceIte]
  refine ⟨fun hn => absurd hn (by omega), fun _ => ?_⟩
  refine PureCall.call (szStringS_ok x.Indexes (l - ByteArray.size x.Name - ByteArray.size x.Global - (szList ByteArray.size) x.Columns) (by omega) (by omega) w_Indexes _) ?_
  by_cases hn_Indexes : ((szList ByteArray.size) x.Indexes : Int) ≤ l - ByteArray.size x.Name - ByteArray.size x.Global - (szList ByteArray.size) x.Columns
  case neg =>
    rw [szR_neg (n := (szList ByteArray.size) x.Indexes) (l := l - ByteArray.size x.Name - ByteArray.size x.Global - (szList ByteArray.size) x.Columns) (by omega)]
    simp (disch := omega) only [Ex_cond, go_sem, Nat.reduceEqDiff, Int.reduceNeg, ↓reduceIte]
    rw [szR_neg (by omega)]; exact resolve_val _ _
  rw [szR_pos (n := (szList ByteArray.size) x.Indexes) (l := l - ByteArray.size x.Name - ByteArray.size x.Global - (szList ByteArray.size) x.Columns) hn_Indexes]
  simp (disch := omega) only [Ex_cond, go_sem, Nat.reduceEqDiff, Int.reduceNeg, ↓reduceIte]
  refine ⟨fun hn => absurd hn (by omega), fun _ => ?_⟩
  rw [szR_pos (by omega), hsz]
  have hfin : l - ((ByteArray.size x.Name + ByteArray.size x.Global + (szList ByteArray.size) x.Columns + (szList ByteArray.size) x.Indexes : Nat) : Int) = l - ByteArray.size x.Name - ByteArray.size x.Global - (szList ByteArray.size) x.Columns - (szList ByteArray.size) x.Indexes := by omega
  rw [hfin]; exact resolve_val _ _

theorem toTable_ok (x : GTable) (hb : GTable.sz x ≤ 1048576) (h : List Row) : PureCall Tryz.prog 8 [.agg (GTable.cells x)] h (.agg (GTable.cells x)) := by
  have hsz : GTable.sz x = ByteArray.size x.Name + ByteArray.size x.Global + (szList ByteArray.size) x.Columns + (szList ByteArray.size) x.Indexes := rfl
  refine pure_fn mixed Tryz.func8 low_laws_toTable rfl rfl ?_ h
  simp (disch := omega) only [lf_laws_toTable, c_laws_toTable, GTable.cells, go_sem, Nat.reduceEqDiff, Nat.reduceAdd, Nat.reduceLeDiff, ↓reduceIte]
  refine PureCall.call (toStringS_ok x.Columns (by omega) _) ?_
  simp (disch := omega) only [go_sem, Nat.reduceEqDiff, Nat.reduceAdd, Nat.reduceLeDiff, ↓reduceIte]
  refine PureCall.call (toStringS_ok x.Indexes (by omega) _) ?_
  simp (disch := omega) only [go_sem, Nat.reduceEqDiff, Nat.reduceAdd, ↓reduceIte, post_cell]
  exact resolve_agg _ _ rfl

theorem eqTable_ok (x : GTable) (hb : GTable.sz x ≤ 1048576) (h : List Row) : PureCall Tryz.prog 12 [.agg (GTable.cells x), .agg (GTable.cells x)] h (.val (.bool true)) := by
  have hsz : GTable.sz x = ByteArray.size x.Name + ByteArray.size x.Global + (szList ByteArray.size) x.Columns + (szList ByteArray.size) x.Indexes := rfl
  refine pure_fn mixed Tryz.func12 low_laws_eqTable rfl rfl ?_ h
  simp (disch := omega) only [lf_laws_eqTable, c_laws_eqTable, GTable.cells, Ex_cond, go_sem, Nat.reduceEqDiff, Nat.reduceAdd, ↓reduceIte]
  refine PureCall.call (eqStringS_ok x.Columns (by omega) _) ?_
  simp (disch := omega) only [Ex_cond, go_sem, Nat.reduceEqDiff, ↓reduceIte]
  refine PureCall.call (eqStringS_ok x.Indexes (by omega) _) ?_
  simp (disch := omega) only [Ex_cond, go_sem, ↓reduceIte]
  exact resolve_val _ _

theorem szNode_ok (x : GNode) (l : Int) (h0 : 0 ≤ l) (h1 : l ≤ 1048576) (hw : GNode.wf x) (h : List Row) : PureCall Tryz.prog 34 [.agg (GNode.cells x), .val (.int .i64 l)] h (.val (.int .i64 (szR (GNode.sz x) l))) := by
  obtain ⟨w_Name, w_Subs, w_Value, _⟩ := hw
  have hsz : GNode.sz x = ByteArray.size x.Name + (szList ByteArray.size) x.Subs + ByteArray.size x.Value := rfl
  refine pure_fn mixed Tryz.func34 low_laws_szNode rfl rfl ?_ h
  unfold wfStr at w_Name
  unfold wfStr at w_Value
  simp (disch := omega) only [lf_laws_szNode, c_laws_szNode, GNode.cells, Ex_cond, go_sem, Nat.reduceEqDiff, Nat.reduceAdd, Int.reduceNeg, ↓reduceIte, wrap_in]
  refine ⟨fun hn => ?_, fun hn_Name => ?_⟩
  · rw [szR_neg (by omega)]; exact resolve_val _ _
  try simp (disch := omega) only [wrap_in]
  refine PureCall.call (szStringS_ok x.Subs (l - ByteArray.size x.Name) (by omega) (by omega) w_Subs _) ?_
  by_cases hn_Subs : ((szList ByteArray.size) x.Subs : Int) ≤ l - ByteArray.size x.Name
  case neg =>
    rw [szR_neg (n := (szList ByteArray.size) x.Subs) (l := l - ByteArray.size x.Name) (by omega)]
    simp (disch := omega) only [Ex_cond, go_sem, Nat.reduceEqDiff, Int.reduceNeg, ↓reduceIte, wrap_in]
    rw [szR_neg (by omega)]; exact resolve_val _ _
  rw [szR_pos (n := (szList ByteArray.size) x.Subs) (l := l - ByteArray.size x.Name) hn_Subs]
  simp (disch := omega) only [Ex_cond, go_sem, Nat.reduceEqDiff, Int.reduceNeg, ↓reduceIte, wrap_in]
  refine ⟨fun hn => absurd hn (by omega), fun _ => ?_⟩
  refine ⟨fun hn => ?_, fun hn_Value => ?_⟩
  · rw [szR_neg (by omega)]; exact resolve_val _ _
  try simp (disch := omega) only [wrap_in]
  rw [szR_pos (by omega), hsz]
  have hfin : l - ((ByteArray.size x.Name + (szList ByteArray.size) x.Subs + ByteArray.size x.Value : Nat) : Int) = l - ByteArray.size x.Name - (szList ByteArray.size) x.Subs - ByteArray.size x.Value := by omega
  rw [hfin]; exact resolve_val _ _

theorem toNode_ok (x : GNode) (hb : GNode.sz x ≤ 1048576) (h : List Row) : PureCall Tryz.prog 38 [.agg (GNode.cells x)] h (.agg (GNode.cells x)) := by
  have hsz : GNode.sz x = ByteArray.size x.Name + (szList ByteArray.size) x.Subs + ByteArray.size x.Value := rfl
  refine pure_fn mixed Tryz.func38 low_laws_toNode rfl rfl ?_ h
  simp (disch := omega) only [lf_laws_toNode, c_laws_toNode, GNode.cells, go_sem, Nat.reduceEqDiff, Nat.reduceAdd, Nat.reduceLeDiff, ↓reduceIte]
  refine PureCall.call (toStringS_ok x.Subs (by omega) _) ?_
  simp (disch := omega) only [go_sem, Nat.reduceEqDiff, Nat.reduceAdd, Nat.reduceLeDiff, ↓reduceIte, post_cell]
  exact resolve_agg _ _ rfl

theorem eqNode_ok (x : GNode) (hb : GNode.sz x ≤ 1048576) (h : List Row) : PureCall Tryz.prog 51 [.agg (GNode.cells x), .agg (GNode.cells x)] h (.val (.bool true)) := by
  have hsz : GNode.sz x = ByteArray.size x.Name + (szList ByteArray.size) x.Subs + ByteArray.size x.Value := rfl
  refine pure_fn mixed Tryz.func51 low_laws_eqNode rfl rfl ?_ h
  simp (disch := omega) only [lf_laws_eqNode, c_laws_eqNode, GNode.cells, Ex_cond, go_sem, Nat.reduceEqDiff, Nat.reduceAdd, ↓reduceIte]
  refine PureCall.call (eqStringS_ok x.Subs (by omega) _) ?_
  simp (disch := omega) only [Ex_cond, go_sem, Nat.reduceEqDiff, ↓reduceIte]
  exact resolve_val _ _

theorem szNodeS_ok (xs : List GNode) (l : Int) (h0 : 0 ≤ l) (h1 : l ≤ 1048576) (hw : wfList GNode.wf xs) (h : List Row) : PureCall Tryz.prog 17 [.list 0 3 (xs.map GNode.cells), .val (.int .i64 l)] h (.val (.int .i64 (szR (szList GNode.sz xs) l))) := by
  obtain ⟨hx, hs⟩ := hw
  refine pure_fn mixed Tryz.func17 low_laws_szNodeS rfl rfl ?_ h
  simp (disch := omega) only [lf_laws_szNodeS, c_laws_szNodeS, Ex_cond, go_sem, Nat.reduceEqDiff, reduceCtorEq, Int.reduceNeg, ↓reduceIte, wrap_in]
  refine ⟨fun hn => ?_, fun hn => ?_⟩
  · rw [szR_neg (by simp only [szList]; omega)]; exact resolve_val _ _
  · refine Ex_loop (fun n t h => ∃ (k : Nat) (m : Int), t 0 = .list 0 3 (xs.map GNode.cells) ∧ t 5 = .val (.int .i64 k) ∧ t 1 = .val (.int .i64 m) ∧ h = [] ∧ n = xs.length - k ∧ k ≤ xs.length ∧ 0 ≤ m ∧ m ≤ 1048576 ∧ szR (szList GNode.sz xs) l = szR (sumOf GNode.sz (xs.drop k)) m) xs.length ?_ ?_
    · exact ⟨0, l - xs.length, rfl, rfl, rfl, rfl, rfl, Nat.zero_le _, by omega, by omega, szR_sub (by omega)⟩
    · rintro J hJ n t h ⟨k, m, t0, t5, t1, rfl, rfl, hk, hm0, hm1, hS⟩
      by_cases hlt : k < xs.length
      · have hd := sumOf_drop GNode.sz xs k hlt
        have hwk := hs _ (List.getElem_mem hlt)
        rw [hd] at hS
        simp (disch := omega) only [t0, t5, t1, hlt, GNode.cells, Ex_cond, go_sem, Nat.reduceEqDiff, Nat.reduceAdd, reduceCtorEq, Int.reduceNeg, ↓reduceIte]
        refine PureCall.call (szNode_ok xs[k] m hm0 hm1 hwk []) ?_
        by_cases hc : (GNode.sz xs[k] : Int) ≤ m
        · rw [szR_pos (n := GNode.sz xs[k]) (l := m) hc]
          simp (disch := omega) only [t5, Ex_cond, go_sem, Nat.reduceEqDiff, Int.reduceNeg, ↓reduceIte, wrap_in]
          refine ⟨fun hn2 => absurd hn2 (by omega), fun _ => ?_⟩
          exact ⟨xs.length - (k + 1), by omega, hJ _ _ _ ⟨k + 1, m - GNode.sz xs[k], by simp [upd, t0], by simp [upd], by simp [upd], rfl, rfl, by omega, by omega, by omega, by rw [hS, szR_sub (by omega)]⟩⟩
        · rw [szR_neg (n := GNode.sz xs[k]) (l := m) (by omega)]
          simp (disch := omega) only [t5, Ex_cond, go_sem, Nat.reduceEqDiff, Int.reduceNeg, ↓reduceIte, wrap_in]
          rw [hS, szR_neg (by omega)]; exact resolve_val _ _
      · simp (disch := omega) only [t0, t5, t1, hlt, Ex_cond, go_sem, Nat.reduceEqDiff, reduceCtorEq, Int.reduceNeg, ↓reduceIte]
        rw [hS, List.drop_eq_nil_of_le (by omega), szR_pos (by simp only [sumOf]; omega)]
        simp only [sumOf, Int.natCast_zero, Int.sub_zero]
        exact resolve_val _ _

theorem toNodeS_ok (xs : List GNode) (hb : (szList GNode.sz) xs ≤ 1048576) (h : List Row) : PureCall Tryz.prog 24 [.list 0 3 (xs.map GNode.cells)] h (.list 0 3 (xs.map GNode.cells)) := by
  have hx := Nat.le_trans (szList_length (f := GNode.sz) (xs := xs)) hb
  refine pure_fn mixed Tryz.func24 low_laws_toNodeS rfl rfl ?_ h
  simp (disch := omega) only [lf_laws_toNodeS, c_laws_toNodeS, go_sem, reduceCtorEq, ↓reduceIte]
  refine ⟨by omega, by omega, ?_⟩
  refine Ex_loop (fun n t h => ∃ k : Nat, t 0 = .list 0 3 (xs.map GNode.cells) ∧ t 3 = .own 0 xs.length ∧ t 4 = .val (.int .i64 k) ∧ h = [⟨60, 3, fillTo (xs.map GNode.cells) [.val (.string ⟨#[]⟩), .val (.slice none 0 0), .val (.string ⟨#[]⟩)] k⟩] ∧ n = xs.length - k ∧ k ≤ xs.length) xs.length ?_ ?_
  · exact ⟨0, rfl, rfl, rfl, by rw [fillTo_zero]; simp, rfl, Nat.zero_le _⟩
  · rintro J hJ n t h ⟨k, t0, t3, t4, rfl, rfl, hk⟩
    have fl : (fillTo (xs.map GNode.cells) [.val (.string ⟨#[]⟩), .val (.slice none 0 0), .val (.string ⟨#[]⟩)] k).length = xs.length := by rw [fillTo_length _ _ (by simpa using hk)]; simp
    by_cases hlt : k < xs.length
    · have fg : (fillTo (xs.map GNode.cells) [.val (.string ⟨#[]⟩), .val (.slice none 0 0), .val (.string ⟨#[]⟩)] k)[k]? = some [.val (.string ⟨#[]⟩), .val (.slice none 0 0), .val (.string ⟨#[]⟩)] := fillTo_get _ _ (by simpa using hlt)
      have fs := fillTo_set' (xs.map GNode.cells) [.val (.string ⟨#[]⟩), .val (.slice none 0 0), .val (.string ⟨#[]⟩)] (GNode.cells xs[k]) (k := k) (by rw [List.getElem?_map, List.getElem?_eq_getElem hlt]; rfl)
      simp only [GNode.cells] at fs
      simp (disch := omega) only [t0, t3, t4, hlt, GNode.cells, Ex_cond, go_sem, Nat.reduceEqDiff, Nat.reduceAdd, reduceCtorEq, ↓reduceIte]
      refine PureCall.call (toNode_ok xs[k] (by have := szList_mem (f := GNode.sz) (List.getElem_mem hlt); omega) _) ?_
      simp (disch := omega) only [t4, hlt, fl, fg, fs, GNode.cells, go_sem, Nat.reduceEqDiff, Nat.reduceAdd, ↓reduceIte, wrap_in]
      exact ⟨xs.length - (k + 1), by omega, hJ _ _ _ ⟨k + 1, by simp [upd, t0], by simp [upd, t3], by simp [upd], rfl, rfl, by omega⟩⟩
    · simp (disch := omega) only [t0, t3, t4, hlt, Ex_cond, go_sem, Nat.reduceEqDiff, reduceCtorEq, ↓reduceIte]
      have ff : fillTo (xs.map GNode.cells) [.val (.string ⟨#[]⟩), .val (.slice none 0 0), .val (.string ⟨#[]⟩)] k = xs.map GNode.cells := fillTo_all _ _ (by simp; omega)
      rw [ff]
      exact resolve_own (r := ⟨60, 3, xs.map GNode.cells⟩) rfl (by simp) (by intro e he; obtain ⟨x, _, q⟩ := List.mem_map.1 he; subst q; rfl)

theorem eqNodeS_ok (xs : List GNode) (hb : (szList GNode.sz) xs ≤ 1048576) (h : List Row) : PureCall Tryz.prog 31 [.list 0 3 (xs.map GNode.cells), .list 0 3 (xs.map GNode.cells)] h (.val (.bool true)) := by
  have hx := Nat.le_trans (szList_length (f := GNode.sz) (xs := xs)) hb
  refine pure_fn mixed Tryz.func31 low_laws_eqNodeS rfl rfl ?_ h
  simp (disch := omega) only [lf_laws_eqNodeS, c_laws_eqNodeS, Ex_cond, go_sem, Nat.reduceEqDiff, reduceCtorEq, ↓reduceIte]
  refine Ex_loop (fun n t h => ∃ k : Nat, t 0 = .list 0 3 (xs.map GNode.cells) ∧ t 1 = .list 0 3 (xs.map GNode.cells) ∧ t 5 = .val (.int .i64 k) ∧ h = [] ∧ n = xs.length - k ∧ k ≤ xs.length) xs.length ?_ ?_
  · exact ⟨0, rfl, rfl, rfl, rfl, rfl, Nat.zero_le _⟩
  · rintro J hJ n t h ⟨k, t0, t1, t5, rfl, rfl, hk⟩
    by_cases hlt : k < xs.length
    · simp (disch := omega) only [t0, t1, t5, hlt, GNode.cells, Ex_cond, go_sem, Nat.reduceEqDiff, Nat.reduceAdd, reduceCtorEq, ↓reduceIte, wrap_in]
      refine PureCall.q (eqNode_ok xs[k] (by have := szList_mem (f := GNode.sz) (List.getElem_mem hlt); omega) _) ?_
      simp (disch := omega) only [go_sem]
      exact ⟨xs.length - (k + 1), by omega, hJ _ _ _ ⟨k + 1, by simp [upd, t0], by simp [upd, t1], by simp [upd], rfl, rfl, by omega⟩⟩
    · simp (disch := omega) only [t0, t1, t5, hlt, Ex_cond, go_sem, Nat.reduceEqDiff, reduceCtorEq, ↓reduceIte, wrap_in]
      exact resolve_val _ _

theorem szTree_ok (x : GTree) (l : Int) (h0 : 0 ≤ l) (h1 : l ≤ 1048576) (hw : GTree.wf x) (h : List Row) : PureCall Tryz.prog 4 [.agg (GTree.cells x), .val (.int .i64 l)] h (.val (.int .i64 (szR (GTree.sz x) l))) := by
  obtain ⟨w_Nodes, _⟩ := hw
  have hsz : GTree.sz x = (szList GNode.sz) x.Nodes := rfl
  refine pure_fn mixed Tryz.func4 low_laws_szTree rfl rfl ?_ h
  simp (disch := omega) only [lf_laws_szTree, c_laws_szTree, GTree.cells, go_sem, Nat.reduceEqDiff, Int.reduceNeg, ↓reduceIte]
  refine PureCall.call (szNodeS_ok x.Nodes (l) (by omega) (by omega) w_Nodes _) ?_
  by_cases hn_Nodes : ((szList GNode.sz) x.Nodes : Int) ≤ l
  case neg =>
    rw [szR_neg (n := (szList GNode.sz) x.Nodes) (l := l) (by omega)]
    simp (disch := omega) only [Ex_cond, go_sem, Nat.reduceEqDiff, Int.reduceNeg, ↓reduceIte]
    rw [szR_neg (by omega)]; exact resolve_val _ _
  rw [szR_pos (n := (szList GNode.sz) x.Nodes) (l := l) hn_Nodes]
  simp (disch := omega) only [Ex_cond, go_sem, Nat.reduceEqDiff, Int.reduceNeg, ↓reduceIte]
  refine ⟨fun hn => absurd hn (by omega), fun _ => ?_⟩
  rw [szR_pos (by omega), hsz]
  have hfin : l - (((szList GNode.sz) x.Nodes : Nat) : Int) = l - (szList GNode.sz) x.Nodes := by omega
  rw [hfin]; exact resolve_val _ _

theorem toTree_ok (x : GTree) (hb : GTree.sz x ≤ 1048576) (h : List Row) : PureCall Tryz.prog 7 [.agg (GTree.cells x)] h (.agg (GTree.cells x)) := by
  have hsz : GTree.sz x = (szList GNode.sz) x.Nodes := rfl
  refine pure_fn mixed Tryz.func7 low_laws_toTree rfl rfl ?_ h
  simp (disch := omega) only [lf_laws_toTree, c_laws_toTree, GTree.cells, go_sem, Nat.reduceEqDiff, Nat.reduceAdd, ↓reduceIte]
  refine PureCall.call (toNodeS_ok x.Nodes (by omega) _) ?_
  simp (disch := omega) only [go_sem, Nat.reduceEqDiff, ↓reduceIte, post_cell]
  exact resolve_agg _ _ rfl

theorem eqTree_ok (x : GTree) (hb : GTree.sz x ≤ 1048576) (h : List Row) : PureCall Tryz.prog 11 [.agg (GTree.cells x), .agg (GTree.cells x)] h (.val (.bool true)) := by
  have hsz : GTree.sz x = (szList GNode.sz) x.Nodes := rfl
  refine pure_fn mixed Tryz.func11 low_laws_eqTree rfl rfl ?_ h
  simp (disch := omega) only [lf_laws_eqTree, c_laws_eqTree, GTree.cells, go_sem, Nat.reduceEqDiff, ↓reduceIte]
  refine PureCall.call (eqNodeS_ok x.Nodes (by omega) _) ?_
  simp (disch := omega) only [Ex_cond, go_sem, ↓reduceIte]
  exact resolve_val _ _

end Go.Proofs.YtkddmakjmjmokaaGreatDoor

