/-
  Contracts of functions of this program, over abstract values. Conditions: as each theorem says.
-/
import Derived.Test.YtleolgjneaekcabGreatDoorBase
namespace Go.Proofs.YtleolgjneaekcabGreatDoor
open Go.AW
set_option linter.unusedVariables false
set_option linter.unusedSimpArgs false



def c_laws_toInt64S : LC :=
 .seq (.ops [⟨some 2, none, .mov (.const (.slice none 0 0))⟩]) (.seq (.ops [⟨some 5, none, .mov (.tmp 0)⟩, ⟨some 6, none, .lenSl (.tmp 5)⟩, ⟨some 7, none, .mkSlice 2 1 8 (.int .i64 0) (.tmp 6) (.tmp 6)⟩, ⟨some 3, none,
 .mov (.tmp 7)⟩]) (.seq (.seq (.ops [⟨some 4, none, .mov (.const (.int .i64 0))⟩]) (.block 0 (.loop (.seq (.seq (.ops [⟨some 8, none, .mov (.tmp 4)⟩, ⟨some 9, none, .mov (.tmp 0)⟩, ⟨some 10, none, .lenSl (.tmp 9)⟩, ⟨some
 11, none, .bin .lss false (.tmp 8) (.tmp 10)⟩]) (.cond (.tmp 11) (.skip) (.exit 0))) (.seq (.block 1 (.ops [⟨some 14, none, .mov (.tmp 3)⟩, ⟨some 15, none, .mov (.tmp 4)⟩, ⟨some 16, none, .mov (.tmp 0)⟩, ⟨some 17, none,
 .mov (.tmp 4)⟩, ⟨some 18, none, .indexAddr 1 (.tmp 16) (.tmp 17)⟩, ⟨some 19, none, .load none (.tmp 18)⟩, ⟨some 20, none, .indexAddr 1 (.tmp 14) (.tmp 15)⟩, ⟨none, none, .store 1 (.tmp 20) (.tmp 19)⟩])) (.ops [⟨some 12,
 none, .mov (.tmp 4)⟩, ⟨some 13, none, .bin .add false (.tmp 12) (.const (.int .i64 1))⟩, ⟨some 4, none, .mov (.tmp 13)⟩])))))) (.seq (.ops [⟨some 21, none, .mov (.tmp 3)⟩, ⟨some 2, none, .mov (.tmp 21)⟩]) (.ret))))
def lf_laws_toInt64S : LF := { np := 1, N := 22, body := c_laws_toInt64S, res := [.tmp 2] }
theorem low_laws_toInt64S : LowF Tryz.prog Tryz.f38 lf_laws_toInt64S := LowF.mk' (by kernel_rfl) (by kernel_rfl) (by kernel_rfl) (by decide)

def c_laws_eqInt64S : LC :=
 .seq (.ops [⟨some 4, none, .mov (.const (.bool false))⟩]) (.seq (.seq (.ops [⟨some 6, none, .mov (.tmp 0)⟩, ⟨some 7, none, .lenSl (.tmp 6)⟩, ⟨some 8, none, .mov (.tmp 1)⟩, ⟨some 9, none, .lenSl (.tmp 8)⟩, ⟨some 10, none,
 .bin .neq false (.tmp 7) (.tmp 9)⟩]) (.cond (.tmp 10) (.seq (.ops [⟨some 4, none, .mov (.const (.bool false))⟩]) (.ret)) (.skip))) (.seq (.seq (.ops [⟨some 5, none, .mov (.const (.int .i64 0))⟩]) (.block 0 (.loop (.seq
 (.seq (.ops [⟨some 11, none, .mov (.tmp 5)⟩, ⟨some 12, none, .mov (.tmp 0)⟩, ⟨some 13, none, .lenSl (.tmp 12)⟩, ⟨some 14, none, .bin .lss false (.tmp 11) (.tmp 13)⟩]) (.cond (.tmp 14) (.skip) (.exit 0))) (.seq (.block 1
 (.seq (.dops [⟨some 17, none, .mov (.tmp 0)⟩, ⟨some 18, none, .mov (.tmp 5)⟩, ⟨some 19, none, .indexAddr 1 (.tmp 17) (.tmp 18)⟩, ⟨some 20, none, .load none (.tmp 19)⟩, ⟨some 21, none, .mov (.tmp 1)⟩, ⟨some 22, none, .mov
 (.tmp 5)⟩, ⟨some 23, none, .indexAddr 1 (.tmp 21) (.tmp 22)⟩, ⟨some 24, none, .load none (.tmp 23)⟩, ⟨some 25, none, .bin .neq false (.tmp 20) (.tmp 24)⟩]) (.cond (.tmp 25) (.seq (.ops [⟨some 4, none, .mov (.const (.bool
 false))⟩]) (.ret)) (.skip)))) (.ops [⟨some 15, none, .mov (.tmp 5)⟩, ⟨some 16, none, .bin .add false (.tmp 15) (.const (.int .i64 1))⟩, ⟨some 5, none, .mov (.tmp 16)⟩])))))) (.seq (.ops [⟨some 4, none, .mov (.const (.bool
 true))⟩]) (.ret))))
def lf_laws_eqInt64S : LF := { np := 2, N := 26, body := c_laws_eqInt64S, res := [.tmp 4] }
theorem low_laws_eqInt64S : LowF Tryz.prog Tryz.f41 lf_laws_eqInt64S := LowF.mk' (by kernel_rfl) (by kernel_rfl) (by kernel_rfl) (by decide)

def c_laws_szStringS : LC :=
 .seq (.ops [⟨some 4, none, .mov (.const (.int .i64 0))⟩]) (.seq (.ops [⟨some 6, none, .mov (.tmp 1)⟩, ⟨some 7, none, .mov (.tmp 0)⟩, ⟨some 8, none, .lenSl (.tmp 7)⟩, ⟨some 9, none, .bin .sub false (.tmp 6) (.tmp 8)⟩,
 ⟨some 1, none, .mov (.tmp 9)⟩]) (.seq (.seq (.ops [⟨some 10, none, .mov (.tmp 1)⟩, ⟨some 11, none, .bin .lss false (.tmp 10) (.const (.int .i64 0))⟩]) (.cond (.tmp 11) (.seq (.ops [⟨some 4, none, .mov (.const (.int .i64
 (-1)))⟩]) (.ret)) (.skip))) (.seq (.seq (.ops [⟨some 5, none, .mov (.const (.int .i64 0))⟩]) (.block 0 (.loop (.seq (.seq (.ops [⟨some 12, none, .mov (.tmp 5)⟩, ⟨some 13, none, .mov (.tmp 0)⟩, ⟨some 14, none, .lenSl (.tmp
 13)⟩, ⟨some 15, none, .bin .lss false (.tmp 12) (.tmp 14)⟩]) (.cond (.tmp 15) (.skip) (.exit 0))) (.seq (.block 1 (.seq (.ops [⟨some 18, none, .mov (.tmp 1)⟩, ⟨some 19, none, .mov (.tmp 0)⟩, ⟨some 20, none, .mov (.tmp
 5)⟩, ⟨some 21, none, .indexAddr 1 (.tmp 19) (.tmp 20)⟩, ⟨some 22, none, .load none (.tmp 21)⟩, ⟨some 23, none, .lenStr (.tmp 22)⟩, ⟨some 24, none, .bin .sub false (.tmp 18) (.tmp 23)⟩, ⟨some 1, none, .mov (.tmp 24)⟩])
 (.seq (.ops [⟨some 25, none, .mov (.tmp 1)⟩, ⟨some 26, none, .bin .lss false (.tmp 25) (.const (.int .i64 0))⟩]) (.cond (.tmp 26) (.seq (.ops [⟨some 4, none, .mov (.const (.int .i64 (-1)))⟩]) (.ret)) (.skip))))) (.ops
 [⟨some 16, none, .mov (.tmp 5)⟩, ⟨some 17, none, .bin .add false (.tmp 16) (.const (.int .i64 1))⟩, ⟨some 5, none, .mov (.tmp 17)⟩])))))) (.seq (.ops [⟨some 27, none, .mov (.tmp 1)⟩, ⟨some 4, none, .mov (.tmp 27)⟩])
 (.ret)))))
def lf_laws_szStringS : LF := { np := 2, N := 28, body := c_laws_szStringS, res := [.tmp 4] }
theorem low_laws_szStringS : LowF Tryz.prog Tryz.f45 lf_laws_szStringS := LowF.mk' (by kernel_rfl) (by kernel_rfl) (by kernel_rfl) (by decide)

def c_laws_toStringS : LC :=
 .seq (.ops [⟨some 2, none, .mov (.const (.slice none 0 0))⟩]) (.seq (.ops [⟨some 5, none, .mov (.tmp 0)⟩, ⟨some 6, none, .lenSl (.tmp 5)⟩, ⟨some 7, none, .mkSlice 9 1 16 (.string ⟨#[]⟩) (.tmp 6) (.tmp 6)⟩, ⟨some 3, none,
 .mov (.tmp 7)⟩]) (.seq (.seq (.ops [⟨some 4, none, .mov (.const (.int .i64 0))⟩]) (.block 0 (.loop (.seq (.seq (.ops [⟨some 8, none, .mov (.tmp 4)⟩, ⟨some 9, none, .mov (.tmp 0)⟩, ⟨some 10, none, .lenSl (.tmp 9)⟩, ⟨some
 11, none, .bin .lss false (.tmp 8) (.tmp 10)⟩]) (.cond (.tmp 11) (.skip) (.exit 0))) (.seq (.block 1 (.ops [⟨some 14, none, .mov (.tmp 3)⟩, ⟨some 15, none, .mov (.tmp 4)⟩, ⟨some 16, none, .mov (.tmp 0)⟩, ⟨some 17, none,
 .mov (.tmp 4)⟩, ⟨some 18, none, .indexAddr 1 (.tmp 16) (.tmp 17)⟩, ⟨some 19, none, .load none (.tmp 18)⟩, ⟨some 20, none, .indexAddr 1 (.tmp 14) (.tmp 15)⟩, ⟨none, none, .store 1 (.tmp 20) (.tmp 19)⟩])) (.ops [⟨some 12,
 none, .mov (.tmp 4)⟩, ⟨some 13, none, .bin .add false (.tmp 12) (.const (.int .i64 1))⟩, ⟨some 4, none, .mov (.tmp 13)⟩])))))) (.seq (.ops [⟨some 21, none, .mov (.tmp 3)⟩, ⟨some 2, none, .mov (.tmp 21)⟩]) (.ret))))
def lf_laws_toStringS : LF := { np := 1, N := 22, body := c_laws_toStringS, res := [.tmp 2] }
theorem low_laws_toStringS : LowF Tryz.prog Tryz.f49 lf_laws_toStringS := LowF.mk' (by kernel_rfl) (by kernel_rfl) (by kernel_rfl) (by decide)

def c_laws_eqStringS : LC :=
 .seq (.ops [⟨some 4, none, .mov (.const (.bool false))⟩]) (.seq (.seq (.ops [⟨some 6, none, .mov (.tmp 0)⟩, ⟨some 7, none, .lenSl (.tmp 6)⟩, ⟨some 8, none, .mov (.tmp 1)⟩, ⟨some 9, none, .lenSl (.tmp 8)⟩, ⟨some 10, none,
 .bin .neq false (.tmp 7) (.tmp 9)⟩]) (.cond (.tmp 10) (.seq (.ops [⟨some 4, none, .mov (.const (.bool false))⟩]) (.ret)) (.skip))) (.seq (.seq (.ops [⟨some 5, none, .mov (.const (.int .i64 0))⟩]) (.block 0 (.loop (.seq
 (.seq (.ops [⟨some 11, none, .mov (.tmp 5)⟩, ⟨some 12, none, .mov (.tmp 0)⟩, ⟨some 13, none, .lenSl (.tmp 12)⟩, ⟨some 14, none, .bin .lss false (.tmp 11) (.tmp 13)⟩]) (.cond (.tmp 14) (.skip) (.exit 0))) (.seq (.block 1
 (.seq (.dops [⟨some 17, none, .mov (.tmp 0)⟩, ⟨some 18, none, .mov (.tmp 5)⟩, ⟨some 19, none, .indexAddr 1 (.tmp 17) (.tmp 18)⟩, ⟨some 20, none, .load none (.tmp 19)⟩, ⟨some 21, none, .mov (.tmp 1)⟩, ⟨some 22, none, .mov
 (.tmp 5)⟩, ⟨some 23, none, .indexAddr 1 (.tmp 21) (.tmp 22)⟩, ⟨some 24, none, .load none (.tmp 23)⟩, ⟨some 25, none, .bin .neq false (.tmp 20) (.tmp 24)⟩]) (.cond (.tmp 25) (.seq (.ops [⟨some 4, none, .mov (.const (.bool
 false))⟩]) (.ret)) (.skip)))) (.ops [⟨some 15, none, .mov (.tmp 5)⟩, ⟨some 16, none, .bin .add false (.tmp 15) (.const (.int .i64 1))⟩, ⟨some 5, none, .mov (.tmp 16)⟩])))))) (.seq (.ops [⟨some 4, none, .mov (.const (.bool
 true))⟩]) (.ret))))
def lf_laws_eqStringS : LF := { np := 2, N := 26, body := c_laws_eqStringS, res := [.tmp 4] }
theorem low_laws_eqStringS : LowF Tryz.prog Tryz.f53 lf_laws_eqStringS := LowF.mk' (by kernel_rfl) (by kernel_rfl) (by kernel_rfl) (by decide)

def c_laws_szEvent : LC :=
 .seq (.ops [⟨some 2, none, .box 24 (.tmp 0)⟩, ⟨some 4, none, .mov (.const (.int .i64 0))⟩]) (.seq (.ops [⟨some 5, none, .mov (.tmp 1)⟩, ⟨some 6, none, .fieldAddr 1 (.tmp 2)⟩, ⟨some 7, none, .load none (.tmp 6)⟩, ⟨some 8,
 none, .lenStr (.tmp 7)⟩, ⟨some 9, none, .bin .sub false (.tmp 5) (.tmp 8)⟩, ⟨some 1, none, .mov (.tmp 9)⟩]) (.seq (.seq (.ops [⟨some 10, none, .mov (.tmp 1)⟩, ⟨some 11, none, .bin .lss false (.tmp 10) (.const (.int .i64
 0))⟩]) (.cond (.tmp 11) (.seq (.ops [⟨some 4, none, .mov (.const (.int .i64 (-1)))⟩]) (.ret)) (.skip))) (.seq (.ops [⟨some 12, none, .fieldAddr 2 (.tmp 2)⟩, ⟨some 13, none, .load none (.tmp 12)⟩, ⟨some 14, none, .mov
 (.tmp 1)⟩, ⟨some 15, none, .call 45 [.tmp 13, .tmp 14]⟩, ⟨some 1, none, .mov (.tmp 15)⟩]) (.seq (.seq (.ops [⟨some 16, none, .mov (.tmp 1)⟩, ⟨some 17, none, .bin .lss false (.tmp 16) (.const (.int .i64 0))⟩]) (.cond (.tmp
 17) (.seq (.ops [⟨some 4, none, .mov (.const (.int .i64 (-1)))⟩]) (.ret)) (.skip))) (.seq (.ops [⟨some 18, none, .mov (.tmp 1)⟩, ⟨some 19, none, .fieldAddr 3 (.tmp 2)⟩, ⟨some 20, none, .load none (.tmp 19)⟩, ⟨some 21,
 none, .lenStr (.tmp 20)⟩, ⟨some 22, none, .bin .sub false (.tmp 18) (.tmp 21)⟩, ⟨some 1, none, .mov (.tmp 22)⟩]) (.seq (.seq (.ops [⟨some 23, none, .mov (.tmp 1)⟩, ⟨some 24, none, .bin .lss false (.tmp 23) (.const (.int
 .i64 0))⟩]) (.cond (.tmp 24) (.seq (.ops [⟨some 4, none, .mov (.const (.int .i64 (-1)))⟩]) (.ret)) (.skip))) (.seq (.ops [⟨some 25, none, .mov (.tmp 1)⟩, ⟨some 4, none, .mov (.tmp 25)⟩]) (.ret))))))))
def lf_laws_szEvent : LF := { np := 2, N := 26, body := c_laws_szEvent, res := [.tmp 4] }
theorem low_laws_szEvent : LowF Tryz.prog Tryz.f8 lf_laws_szEvent := LowF.mk' (by kernel_rfl) (by kernel_rfl) (by kernel_rfl) (by decide)

def c_laws_toEvent : LC :=
 .seq (.ops [⟨some 1, none, .box 24 (.tmp 0)⟩, ⟨some 2, none, .alloc 30 (.agg #[.int .i64 0, .string ⟨#[]⟩, .slice none 0 0, .string ⟨#[]⟩, .int .i64 0])⟩]) (.seq (.ops [⟨some 3, none, .alloc 30 (.agg #[.int .i64 0,
 .string ⟨#[]⟩, .slice none 0 0, .string ⟨#[]⟩, .int .i64 0])⟩]) (.seq (.ops [⟨some 4, none, .fieldAddr 0 (.tmp 1)⟩, ⟨some 5, none, .load none (.tmp 4)⟩, ⟨some 6, none, .fieldAddr 0 (.tmp 3)⟩, ⟨none, none, .store 1 (.tmp
 6) (.tmp 5)⟩]) (.seq (.ops [⟨some 7, none, .fieldAddr 1 (.tmp 1)⟩, ⟨some 8, none, .load none (.tmp 7)⟩, ⟨some 9, none, .fieldAddr 1 (.tmp 3)⟩, ⟨none, none, .store 1 (.tmp 9) (.tmp 8)⟩]) (.seq (.ops [⟨some 10, none,
 .fieldAddr 2 (.tmp 1)⟩, ⟨some 11, none, .load none (.tmp 10)⟩, ⟨some 12, none, .call 49 [.tmp 11]⟩, ⟨some 13, none, .fieldAddr 2 (.tmp 3)⟩, ⟨none, none, .store 1 (.tmp 13) (.tmp 12)⟩]) (.seq (.ops [⟨some 14, none,
 .fieldAddr 3 (.tmp 1)⟩, ⟨some 15, none, .load none (.tmp 14)⟩, ⟨some 16, none, .fieldAddr 3 (.tmp 3)⟩, ⟨none, none, .store 1 (.tmp 16) (.tmp 15)⟩]) (.seq (.ops [⟨some 17, none, .fieldAddr 4 (.tmp 1)⟩, ⟨some 18, none,
 .load none (.tmp 17)⟩, ⟨some 19, none, .fieldAddr 4 (.tmp 3)⟩, ⟨none, none, .store 1 (.tmp 19) (.tmp 18)⟩]) (.seq (.ops [⟨some 20, none, .load (some 5) (.tmp 3)⟩, ⟨none, none, .store 5 (.tmp 2) (.tmp 20)⟩]) (.ret))))))))
def lf_laws_toEvent : LF := { np := 1, N := 21, body := c_laws_toEvent, res := [.cell 2 (some 5)] }
theorem low_laws_toEvent : LowF Tryz.prog Tryz.f10 lf_laws_toEvent := LowF.mk' (by kernel_rfl) (by kernel_rfl) (by kernel_rfl) (by decide)

def c_laws_eqEvent : LC :=
 .seq (.ops [⟨some 2, none, .box 30 (.tmp 0)⟩, ⟨some 3, none, .box 30 (.tmp 1)⟩, ⟨some 4, none, .mov (.const (.bool false))⟩]) (.seq (.seq (.ops [⟨some 5, none, .fieldAddr 0 (.tmp 2)⟩, ⟨some 6, none, .load none (.tmp 5)⟩,
 ⟨some 7, none, .fieldAddr 0 (.tmp 3)⟩, ⟨some 8, none, .load none (.tmp 7)⟩, ⟨some 9, none, .bin .neq false (.tmp 6) (.tmp 8)⟩]) (.cond (.tmp 9) (.seq (.ops [⟨some 4, none, .mov (.const (.bool false))⟩]) (.ret)) (.skip)))
 (.seq (.seq (.ops [⟨some 10, none, .fieldAddr 1 (.tmp 2)⟩, ⟨some 11, none, .load none (.tmp 10)⟩, ⟨some 12, none, .fieldAddr 1 (.tmp 3)⟩, ⟨some 13, none, .load none (.tmp 12)⟩, ⟨some 14, none, .bin .neq false (.tmp 11)
 (.tmp 13)⟩]) (.cond (.tmp 14) (.seq (.ops [⟨some 4, none, .mov (.const (.bool false))⟩]) (.ret)) (.skip))) (.seq (.seq (.ops [⟨some 15, none, .fieldAddr 2 (.tmp 2)⟩, ⟨some 16, none, .load none (.tmp 15)⟩, ⟨some 17, none,
 .fieldAddr 2 (.tmp 3)⟩, ⟨some 18, none, .load none (.tmp 17)⟩, ⟨some 19, none, .call 53 [.tmp 16, .tmp 18]⟩, ⟨some 20, none, .un .not (.tmp 19)⟩]) (.cond (.tmp 20) (.seq (.ops [⟨some 4, none, .mov (.const (.bool
 false))⟩]) (.ret)) (.skip))) (.seq (.seq (.ops [⟨some 21, none, .fieldAddr 3 (.tmp 2)⟩, ⟨some 22, none, .load none (.tmp 21)⟩, ⟨some 23, none, .fieldAddr 3 (.tmp 3)⟩, ⟨some 24, none, .load none (.tmp 23)⟩, ⟨some 25, none,
 .bin .neq false (.tmp 22) (.tmp 24)⟩]) (.cond (.tmp 25) (.seq (.ops [⟨some 4, none, .mov (.const (.bool false))⟩]) (.ret)) (.skip))) (.seq (.seq (.ops [⟨some 26, none, .fieldAddr 4 (.tmp 2)⟩, ⟨some 27, none, .load none
 (.tmp 26)⟩, ⟨some 28, none, .fieldAddr 4 (.tmp 3)⟩, ⟨some 29, none, .load none (.tmp 28)⟩, ⟨some 30, none, .bin .neq false (.tmp 27) (.tmp 29)⟩]) (.cond (.tmp 30) (.seq (.ops [⟨some 4, none, .mov (.const (.bool false))⟩])
 (.ret)) (.skip))) (.seq (.ops [⟨some 4, none, .mov (.const (.bool true))⟩]) (.ret)))))))
def lf_laws_eqEvent : LF := { np := 2, N := 31, body := c_laws_eqEvent, res := [.tmp 4] }
theorem low_laws_eqEvent : LowF Tryz.prog Tryz.f13 lf_laws_eqEvent := LowF.mk' (by kernel_rfl) (by kernel_rfl) (by kernel_rfl) (by decide)

def c_laws_szDoing : LC :=
 .seq (.ops [⟨some 2, none, .box 86 (.tmp 0)⟩, ⟨some 4, none, .mov (.const (.int .i64 0))⟩]) (.seq (.ops [⟨some 5, none, .fieldAddr 1 (.tmp 2)⟩, ⟨some 6, none, .load (some 5) (.tmp 5)⟩, ⟨some 7, none, .mov (.tmp 1)⟩, ⟨some
 8, none, .call 8 [.tmp 6, .tmp 7]⟩, ⟨some 1, none, .mov (.tmp 8)⟩]) (.seq (.seq (.ops [⟨some 9, none, .mov (.tmp 1)⟩, ⟨some 10, none, .bin .lss false (.tmp 9) (.const (.int .i64 0))⟩]) (.cond (.tmp 10) (.seq (.ops [⟨some
 4, none, .mov (.const (.int .i64 (-1)))⟩]) (.ret)) (.skip))) (.seq (.ops [⟨some 11, none, .mov (.tmp 1)⟩, ⟨some 4, none, .mov (.tmp 11)⟩]) (.ret))))
def lf_laws_szDoing : LF := { np := 2, N := 12, body := c_laws_szDoing, res := [.tmp 4] }
theorem low_laws_szDoing : LowF Tryz.prog Tryz.f66 lf_laws_szDoing := LowF.mk' (by kernel_rfl) (by kernel_rfl) (by kernel_rfl) (by decide)

def c_laws_toDoing : LC :=
 .seq (.ops [⟨some 1, none, .box 86 (.tmp 0)⟩, ⟨some 2, none, .alloc 91 (.agg #[.int .i64 0, .int .i64 0, .string ⟨#[]⟩, .slice none 0 0, .string ⟨#[]⟩, .int .i64 0])⟩]) (.seq (.ops [⟨some 3, none, .alloc 91 (.agg #[.int
 .i64 0, .int .i64 0, .string ⟨#[]⟩, .slice none 0 0, .string ⟨#[]⟩, .int .i64 0])⟩]) (.seq (.ops [⟨some 4, none, .fieldAddr 0 (.tmp 1)⟩, ⟨some 5, none, .load none (.tmp 4)⟩, ⟨some 6, none, .fieldAddr 0 (.tmp 3)⟩, ⟨none,
 none, .store 1 (.tmp 6) (.tmp 5)⟩]) (.seq (.ops [⟨some 7, none, .fieldAddr 1 (.tmp 1)⟩, ⟨some 8, none, .load (some 5) (.tmp 7)⟩, ⟨some 9, none, .call 10 [.tmp 8]⟩, ⟨some 10, none, .fieldAddr 1 (.tmp 3)⟩, ⟨none, none,
 .store 5 (.tmp 10) (.tmp 9)⟩]) (.seq (.ops [⟨some 11, none, .load (some 6) (.tmp 3)⟩, ⟨none, none, .store 6 (.tmp 2) (.tmp 11)⟩]) (.ret)))))
def lf_laws_toDoing : LF := { np := 1, N := 12, body := c_laws_toDoing, res := [.cell 2 (some 6)] }
theorem low_laws_toDoing : LowF Tryz.prog Tryz.f71 lf_laws_toDoing := LowF.mk' (by kernel_rfl) (by kernel_rfl) (by kernel_rfl) (by decide)

def c_laws_eqDoing : LC :=
 .seq (.ops [⟨some 2, none, .box 91 (.tmp 0)⟩, ⟨some 3, none, .box 91 (.tmp 1)⟩, ⟨some 4, none, .mov (.const (.bool false))⟩]) (.seq (.seq (.ops [⟨some 5, none, .fieldAddr 0 (.tmp 2)⟩, ⟨some 6, none, .load none (.tmp 5)⟩,
 ⟨some 7, none, .fieldAddr 0 (.tmp 3)⟩, ⟨some 8, none, .load none (.tmp 7)⟩, ⟨some 9, none, .bin .neq false (.tmp 6) (.tmp 8)⟩]) (.cond (.tmp 9) (.seq (.ops [⟨some 4, none, .mov (.const (.bool false))⟩]) (.ret)) (.skip)))
 (.seq (.seq (.ops [⟨some 10, none, .fieldAddr 1 (.tmp 2)⟩, ⟨some 11, none, .load (some 5) (.tmp 10)⟩, ⟨some 12, none, .fieldAddr 1 (.tmp 3)⟩, ⟨some 13, none, .load (some 5) (.tmp 12)⟩, ⟨some 14, none, .call 13 [.tmp 11,
 .tmp 13]⟩, ⟨some 15, none, .un .not (.tmp 14)⟩]) (.cond (.tmp 15) (.seq (.ops [⟨some 4, none, .mov (.const (.bool false))⟩]) (.ret)) (.skip))) (.seq (.ops [⟨some 4, none, .mov (.const (.bool true))⟩]) (.ret))))
def lf_laws_eqDoing : LF := { np := 2, N := 16, body := c_laws_eqDoing, res := [.tmp 4] }
theorem low_laws_eqDoing : LowF Tryz.prog Tryz.f76 lf_laws_eqDoing := LowF.mk' (by kernel_rfl) (by kernel_rfl) (by kernel_rfl) (by decide)

def c_laws_szDoingS : LC :=
 .seq (.ops [⟨some 4, none, .mov (.const (.int .i64 0))⟩]) (.seq (.ops [⟨some 6, none, .mov (.tmp 1)⟩, ⟨some 7, none, .mov (.tmp 0)⟩, ⟨some 8, none, .lenSl (.tmp 7)⟩, ⟨some 9, none, .bin .sub false (.tmp 6) (.tmp 8)⟩,
 ⟨some 1, none, .mov (.tmp 9)⟩]) (.seq (.seq (.ops [⟨some 10, none, .mov (.tmp 1)⟩, ⟨some 11, none, .bin .lss false (.tmp 10) (.const (.int .i64 0))⟩]) (.cond (.tmp 11) (.seq (.ops [⟨some 4, none, .mov (.const (.int .i64
 (-1)))⟩]) (.ret)) (.skip))) (.seq (.seq (.ops [⟨some 5, none, .mov (.const (.int .i64 0))⟩]) (.block 0 (.loop (.seq (.seq (.ops [⟨some 12, none, .mov (.tmp 5)⟩, ⟨some 13, none, .mov (.tmp 0)⟩, ⟨some 14, none, .lenSl (.tmp
 13)⟩, ⟨some 15, none, .bin .lss false (.tmp 12) (.tmp 14)⟩]) (.cond (.tmp 15) (.skip) (.exit 0))) (.seq (.block 1 (.seq (.ops [⟨some 18, none, .mov (.tmp 0)⟩, ⟨some 19, none, .mov (.tmp 5)⟩, ⟨some 20, none, .indexAddr 6
 (.tmp 18) (.tmp 19)⟩, ⟨some 21, none, .load (some 6) (.tmp 20)⟩, ⟨some 22, none, .mov (.tmp 1)⟩, ⟨some 23, none, .call 66 [.tmp 21, .tmp 22]⟩, ⟨some 1, none, .mov (.tmp 23)⟩]) (.seq (.ops [⟨some 24, none, .mov (.tmp 1)⟩,
 ⟨some 25, none, .bin .lss false (.tmp 24) (.const (.int .i64 0))⟩]) (.cond (.tmp 25) (.seq (.ops [⟨some 4, none, .mov (.const (.int .i64 (-1)))⟩]) (.ret)) (.skip))))) (.ops [⟨some 16, none, .mov (.tmp 5)⟩, ⟨some 17, none,
 .bin .add false (.tmp 16) (.const (.int .i64 1))⟩, ⟨some 5, none, .mov (.tmp 17)⟩])))))) (.seq (.ops [⟨some 26, none, .mov (.tmp 1)⟩, ⟨some 4, none, .mov (.tmp 26)⟩]) (.ret)))))
def lf_laws_szDoingS : LF := { np := 2, N := 27, body := c_laws_szDoingS, res := [.tmp 4] }
theorem low_laws_szDoingS : LowF Tryz.prog Tryz.f35 lf_laws_szDoingS := LowF.mk' (by kernel_rfl) (by kernel_rfl) (by kernel_rfl) (by decide)

def c_laws_toDoingS : LC :=
 .seq (.ops [⟨some 2, none, .mov (.const (.slice none 0 0))⟩]) (.seq (.ops [⟨some 5, none, .mov (.tmp 0)⟩, ⟨some 6, none, .lenSl (.tmp 5)⟩, ⟨some 7, none, .mkSlice 91 6 80 (.agg #[.int .i64 0, .int .i64 0, .string ⟨#[]⟩,
 .slice none 0 0, .string ⟨#[]⟩, .int .i64 0]) (.tmp 6) (.tmp 6)⟩, ⟨some 3, none, .mov (.tmp 7)⟩]) (.seq (.seq (.ops [⟨some 4, none, .mov (.const (.int .i64 0))⟩]) (.block 0 (.loop (.seq (.seq (.ops [⟨some 8, none, .mov
 (.tmp 4)⟩, ⟨some 9, none, .mov (.tmp 0)⟩, ⟨some 10, none, .lenSl (.tmp 9)⟩, ⟨some 11, none, .bin .lss false (.tmp 8) (.tmp 10)⟩]) (.cond (.tmp 11) (.skip) (.exit 0))) (.seq (.block 1 (.ops [⟨some 14, none, .mov (.tmp 3)⟩,
 ⟨some 15, none, .mov (.tmp 4)⟩, ⟨some 16, none, .mov (.tmp 0)⟩, ⟨some 17, none, .mov (.tmp 4)⟩, ⟨some 18, none, .indexAddr 6 (.tmp 16) (.tmp 17)⟩, ⟨some 19, none, .load (some 6) (.tmp 18)⟩, ⟨some 20, none, .call 71 [.tmp
 19]⟩, ⟨some 21, none, .indexAddr 6 (.tmp 14) (.tmp 15)⟩, ⟨none, none, .store 6 (.tmp 21) (.tmp 20)⟩])) (.ops [⟨some 12, none, .mov (.tmp 4)⟩, ⟨some 13, none, .bin .add false (.tmp 12) (.const (.int .i64 1))⟩, ⟨some 4,
 none, .mov (.tmp 13)⟩])))))) (.seq (.ops [⟨some 22, none, .mov (.tmp 3)⟩, ⟨some 2, none, .mov (.tmp 22)⟩]) (.ret))))
def lf_laws_toDoingS : LF := { np := 1, N := 23, body := c_laws_toDoingS, res := [.tmp 2] }
theorem low_laws_toDoingS : LowF Tryz.prog Tryz.f37 lf_laws_toDoingS := LowF.mk' (by kernel_rfl) (by kernel_rfl) (by kernel_rfl) (by decide)

def c_laws_eqDoingS : LC :=
 .seq (.ops [⟨some 4, none, .mov (.const (.bool false))⟩]) (.seq (.seq (.ops [⟨some 6, none, .mov (.tmp 0)⟩, ⟨some 7, none, .lenSl (.tmp 6)⟩, ⟨some 8, none, .mov (.tmp 1)⟩, ⟨some 9, none, .lenSl (.tmp 8)⟩, ⟨some 10, none,
 .bin .neq false (.tmp 7) (.tmp 9)⟩]) (.cond (.tmp 10) (.seq (.ops [⟨some 4, none, .mov (.const (.bool false))⟩]) (.ret)) (.skip))) (.seq (.seq (.ops [⟨some 5, none, .mov (.const (.int .i64 0))⟩]) (.block 0 (.loop (.seq
 (.seq (.ops [⟨some 11, none, .mov (.tmp 5)⟩, ⟨some 12, none, .mov (.tmp 0)⟩, ⟨some 13, none, .lenSl (.tmp 12)⟩, ⟨some 14, none, .bin .lss false (.tmp 11) (.tmp 13)⟩]) (.cond (.tmp 14) (.skip) (.exit 0))) (.seq (.block 1
 (.seq (.dops [⟨some 17, none, .mov (.tmp 0)⟩, ⟨some 18, none, .mov (.tmp 5)⟩, ⟨some 19, none, .indexAddr 6 (.tmp 17) (.tmp 18)⟩, ⟨some 20, none, .load (some 6) (.tmp 19)⟩, ⟨some 21, none, .mov (.tmp 1)⟩, ⟨some 22, none,
 .mov (.tmp 5)⟩, ⟨some 23, none, .indexAddr 6 (.tmp 21) (.tmp 22)⟩, ⟨some 24, none, .load (some 6) (.tmp 23)⟩, ⟨some 25, none, .call 76 [.tmp 20, .tmp 24]⟩, ⟨some 26, none, .un .not (.tmp 25)⟩]) (.cond (.tmp 26) (.seq
 (.ops [⟨some 4, none, .mov (.const (.bool false))⟩]) (.ret)) (.skip)))) (.ops [⟨some 15, none, .mov (.tmp 5)⟩, ⟨some 16, none, .bin .add false (.tmp 15) (.const (.int .i64 1))⟩, ⟨some 5, none, .mov (.tmp 16)⟩])))))) (.seq
 (.ops [⟨some 4, none, .mov (.const (.bool true))⟩]) (.ret))))
def lf_laws_eqDoingS : LF := { np := 2, N := 27, body := c_laws_eqDoingS, res := [.tmp 4] }
theorem low_laws_eqDoingS : LowF Tryz.prog Tryz.f40 lf_laws_eqDoingS := LowF.mk' (by kernel_rfl) (by kernel_rfl) (by kernel_rfl) (by decide)

theorem toInt64S_ok (xs : List Int) (hb : (szList (fun _ => 0)) xs ≤ 1048576) (h : List Row) : PureCall Tryz.prog 38 [.list 0 1 (xs.map cInt)] h (.list 0 1 (xs.map cInt)) := by
  have hx := Nat.le_trans (szList_length (f := (fun _ => 0)) (xs := xs)) hb
  refine pure_fn mixed Tryz.func38 low_laws_toInt64S rfl rfl ?_ h
  simp (disch := omega) only [lf_laws_toInt64S, c_laws_toInt64S, Ex_cond, go_sem, Nat.reduceEqDiff, Nat.reduceAdd, Nat.reduceLeDiff, reduceCtorEq, Int.reduceLT, Int.reduceLE, Int.reduceNeg, Int.reduceSub, Int.reduceAdd, Int.reduceToNat, ↓reduceIte, wrap_in]
  refine ⟨by omega, by omega, ?_⟩
  refine Ex_loop (fun n t h => ∃ k : Nat, t 0 = .list 0 1 (xs.map cInt) ∧ t 3 = .own 0 xs.length ∧ t 4 = .val (.int .i64 k) ∧ h = [⟨2, 1, fillTo (xs.map cInt) [.val (.int .i64 0)] k⟩] ∧ n = xs.length - k ∧ k ≤ xs.length) xs.length ?_ ?_
  · exact ⟨0, rfl, rfl, rfl, by rw [fillTo_zero]; simp, rfl, Nat.zero_le _⟩
  · rintro J hJ n t h ⟨k, t0, t3, t4, rfl, rfl, hk⟩
    have fl : (fillTo (xs.map cInt) [.val (.int .i64 0)] k).length = xs.length := by rw [fillTo_length _ _ (by simpa using hk)]; simp
    by_cases hlt : k < xs.length
    · have fg : (fillTo (xs.map cInt) [.val (.int .i64 0)] k)[k]? = some [.val (.int .i64 0)] := fillTo_get _ _ (by simpa using hlt)
      have fs := fillTo_set' (xs.map cInt) [.val (.int .i64 0)] (cInt xs[k]) (k := k) (by rw [List.getElem?_map, List.getElem?_eq_getElem hlt]; rfl)
      simp (disch := omega) only [t0, t3, t4, hlt, fl, fg, Ex_cond, go_sem, Nat.reduceEqDiff, Nat.reduceAdd, Nat.reduceLeDiff, reduceCtorEq, Int.reduceLT, Int.reduceLE, Int.reduceNeg, Int.reduceSub, Int.reduceAdd, Int.reduceToNat, ↓reduceIte, wrap_in]
      try simp (disch := omega) only [fs, fl, fg, Ex_cond, go_sem, Nat.reduceEqDiff, Nat.reduceAdd, Nat.reduceLeDiff, reduceCtorEq, Int.reduceLT, Int.reduceLE, Int.reduceNeg, Int.reduceSub, Int.reduceAdd, Int.reduceToNat, ↓reduceIte, wrap_in]
      exact ⟨xs.length - (k + 1), by omega, hJ _ _ _ ⟨k + 1, by simp [upd, t0], by simp [upd, t3], by simp [upd], by simp [fs], rfl, by omega⟩⟩
    · simp (disch := omega) only [t0, t3, t4, hlt, fl, Ex_cond, go_sem, Nat.reduceEqDiff, Nat.reduceAdd, Nat.reduceLeDiff, reduceCtorEq, Int.reduceLT, Int.reduceLE, Int.reduceNeg, Int.reduceSub, Int.reduceAdd, Int.reduceToNat, ↓reduceIte, wrap_in]
      have ff : fillTo (xs.map cInt) [.val (.int .i64 0)] k = xs.map cInt := fillTo_all _ _ (by simp; omega)
      rw [ff]
      exact resolve_own (r := ⟨2, 1, xs.map cInt⟩) rfl (by simp) (by intro e he; obtain ⟨x, _, q⟩ := List.mem_map.1 he; subst q; rfl)

theorem eqInt64S_ok (xs : List Int) (hb : (szList (fun _ => 0)) xs ≤ 1048576) (h : List Row) : PureCall Tryz.prog 41 [.list 0 1 (xs.map cInt), .list 0 1 (xs.map cInt)] h (.val (.bool true)) := by
  have hx := Nat.le_trans (szList_length (f := (fun _ => 0)) (xs := xs)) hb
  refine pure_fn mixed Tryz.func41 low_laws_eqInt64S rfl rfl ?_ h
  simp (disch := omega) only [lf_laws_eqInt64S, c_laws_eqInt64S, Ex_cond, go_sem, Nat.reduceEqDiff, Nat.reduceAdd, Nat.reduceLeDiff, reduceCtorEq, Int.reduceLT, Int.reduceLE, Int.reduceNeg, Int.reduceSub, Int.reduceAdd, Int.reduceToNat, ↓reduceIte, wrap_in]
  refine Ex_loop (fun n t h => ∃ k : Nat, t 0 = .list 0 1 (xs.map cInt) ∧ t 1 = .list 0 1 (xs.map cInt) ∧ t 5 = .val (.int .i64 k) ∧ h = [] ∧ n = xs.length - k ∧ k ≤ xs.length) xs.length ?_ ?_
  · exact ⟨0, rfl, rfl, rfl, rfl, rfl, Nat.zero_le _⟩
  · rintro J hJ n t h ⟨k, t0, t1, t5, rfl, rfl, hk⟩
    by_cases hlt : k < xs.length
    · simp (disch := omega) only [t0, t1, t5, hlt, Ex_cond, go_sem, Nat.reduceEqDiff, Nat.reduceAdd, Nat.reduceLeDiff, reduceCtorEq, Int.reduceLT, Int.reduceLE, Int.reduceNeg, Int.reduceSub, Int.reduceAdd, Int.reduceToNat, ↓reduceIte, wrap_in]
      exact ⟨xs.length - (k + 1), by omega, hJ _ _ _ ⟨k + 1, by simp [upd, t0], by simp [upd, t1], by simp [upd], rfl, rfl, by omega⟩⟩
    · simp (disch := omega) only [t0, t1, t5, hlt, Ex_cond, go_sem, Nat.reduceEqDiff, Nat.reduceAdd, Nat.reduceLeDiff, reduceCtorEq, Int.reduceLT, Int.reduceLE, Int.reduceNeg, Int.reduceSub, Int.reduceAdd, Int.reduceToNat, ↓reduceIte, wrap_in]
      exact resolve_val _ _

theorem szStringS_ok (xs : List ByteArray) (l : Int) (h0 : 0 ≤ l) (h1 : l ≤ 1048576) (hw : wfList wfStr xs) (h : List Row) : PureCall Tryz.prog 45 [.list 0 1 (xs.map cStr), .val (.int .i64 l)] h (.val (.int .i64 (szR (szList ByteArray.size xs) l))) := by
  obtain ⟨hx, hs⟩ := hw
  refine pure_fn mixed Tryz.func45 low_laws_szStringS rfl rfl ?_ h
  simp (disch := omega) only [lf_laws_szStringS, c_laws_szStringS, Ex_cond, go_sem, Nat.reduceEqDiff, Nat.reduceAdd, Nat.reduceLeDiff, reduceCtorEq, Int.reduceLT, Int.reduceLE, Int.reduceNeg, Int.reduceSub, Int.reduceAdd, Int.reduceToNat, ↓reduceIte, wrap_in]
  refine ⟨fun hn => ?_, fun hn => ?_⟩
  · rw [szR_neg (by simp only [szList]; omega)]; exact resolve_val _ _
  · refine Ex_loop (fun n t h => ∃ (k : Nat) (m : Int), t 0 = .list 0 1 (xs.map cStr) ∧ t 5 = .val (.int .i64 k) ∧ t 1 = .val (.int .i64 m) ∧ h = [] ∧ n = xs.length - k ∧ k ≤ xs.length ∧ 0 ≤ m ∧ m ≤ 1048576 ∧ szR (szList ByteArray.size xs) l = szR (sumOf ByteArray.size (xs.drop k)) m) xs.length ?_ ?_
    · exact ⟨0, l - xs.length, rfl, rfl, rfl, rfl, rfl, Nat.zero_le _, by omega, by omega, szR_sub (by omega)⟩
    · rintro J hJ n t h ⟨k, m, t0, t5, t1, rfl, rfl, hk, hm0, hm1, hS⟩
      by_cases hlt : k < xs.length
      · have hd := sumOf_drop ByteArray.size xs k hlt
        have hwk := hs _ (List.getElem_mem hlt)
        rw [hd] at hS
        unfold wfStr at hwk
        simp (disch := omega) only [t0, t5, t1, hlt, Ex_cond, go_sem, Nat.reduceEqDiff, Nat.reduceAdd, Nat.reduceLeDiff, reduceCtorEq, Int.reduceLT, Int.reduceLE, Int.reduceNeg, Int.reduceSub, Int.reduceAdd, Int.reduceToNat, ↓reduceIte, wrap_in]
        refine ⟨fun hn2 => ?_, fun hn2 => ?_⟩
        · rw [hS, szR_neg (by omega)]; exact resolve_val _ _
        · exact ⟨xs.length - (k + 1), by omega, hJ _ _ _ ⟨k + 1, m - xs[k].size, by simp [upd, t0], by simp [upd], by simp [upd], rfl, rfl, by omega, by omega, by omega, by rw [hS, szR_sub (by omega)]⟩⟩
      · simp (disch := omega) only [t0, t5, t1, hlt, Ex_cond, go_sem, Nat.reduceEqDiff, Nat.reduceAdd, Nat.reduceLeDiff, reduceCtorEq, Int.reduceLT, Int.reduceLE, Int.reduceNeg, Int.reduceSub, Int.reduceAdd, Int.reduceToNat, ↓reduceIte]
        rw [hS, List.drop_eq_nil_of_le (by omega), szR_pos (by simp only [sumOf]; omega)]
        simp only [sumOf, Int.natCast_zero, Int.sub_zero]
        exact resolve_val _ _

theorem toStringS_ok (xs : List ByteArray) (hb : (szList ByteArray.size) xs ≤ 1048576) (h : List Row) : PureCall Tryz.prog 49 [.list 0 1 (xs.map cStr)] h (.list 0 1 (xs.map cStr)) := by
  have hx := Nat.le_trans (szList_length (f := ByteArray.size) (xs := xs)) hb
  refine pure_fn mixed Tryz.func49 low_laws_toStringS rfl rfl ?_ h
  simp (disch := omega) only [lf_laws_toStringS, c_laws_toStringS, Ex_cond, go_sem, Nat.reduceEqDiff, Nat.reduceAdd, Nat.reduceLeDiff, reduceCtorEq, Int.reduceLT, Int.reduceLE, Int.reduceNeg, Int.reduceSub, Int.reduceAdd, Int.reduceToNat, ↓reduceIte, wrap_in]
  refine ⟨by omega, by omega, ?_⟩
  refine Ex_loop (fun n t h => ∃ k : Nat, t 0 = .list 0 1 (xs.map cStr) ∧ t 3 = .own 0 xs.length ∧ t 4 = .val (.int .i64 k) ∧ h = [⟨9, 1, fillTo (xs.map cStr) [.val (.string ⟨#[]⟩)] k⟩] ∧ n = xs.length - k ∧ k ≤ xs.length) xs.length ?_ ?_
  · exact ⟨0, rfl, rfl, rfl, by rw [fillTo_zero]; simp, rfl, Nat.zero_le _⟩
  · rintro J hJ n t h ⟨k, t0, t3, t4, rfl, rfl, hk⟩
    have fl : (fillTo (xs.map cStr) [.val (.string ⟨#[]⟩)] k).length = xs.length := by rw [fillTo_length _ _ (by simpa using hk)]; simp
    by_cases hlt : k < xs.length
    · have fg : (fillTo (xs.map cStr) [.val (.string ⟨#[]⟩)] k)[k]? = some [.val (.string ⟨#[]⟩)] := fillTo_get _ _ (by simpa using hlt)
      have fs := fillTo_set' (xs.map cStr) [.val (.string ⟨#[]⟩)] (cStr xs[k]) (k := k) (by rw [List.getElem?_map, List.getElem?_eq_getElem hlt]; rfl)
      simp (disch := omega) only [t0, t3, t4, hlt, fl, fg, Ex_cond, go_sem, Nat.reduceEqDiff, Nat.reduceAdd, Nat.reduceLeDiff, reduceCtorEq, Int.reduceLT, Int.reduceLE, Int.reduceNeg, Int.reduceSub, Int.reduceAdd, Int.reduceToNat, ↓reduceIte, wrap_in]
      try simp (disch := omega) only [fs, fl, fg, Ex_cond, go_sem, Nat.reduceEqDiff, Nat.reduceAdd, Nat.reduceLeDiff, reduceCtorEq, Int.reduceLT, Int.reduceLE, Int.reduceNeg, Int.reduceSub, Int.reduceAdd, Int.reduceToNat, ↓reduceIte, wrap_in]
      exact ⟨xs.length - (k + 1), by omega, hJ _ _ _ ⟨k + 1, by simp [upd, t0], by simp [upd, t3], by simp [upd], by simp [fs], rfl, by omega⟩⟩
    · simp (disch := omega) only [t0, t3, t4, hlt, fl, Ex_cond, go_sem, Nat.reduceEqDiff, Nat.reduceAdd, Nat.reduceLeDiff, reduceCtorEq, Int.reduceLT, Int.reduceLE, Int.reduceNeg, Int.reduceSub, Int.reduceAdd, Int.reduceToNat, ↓reduceIte, wrap_in]
      have ff : fillTo (xs.map cStr) [.val (.string ⟨#[]⟩)] k = xs.map cStr := fillTo_all _ _ (by simp; omega)
      rw [ff]
      exact resolve_own (r := ⟨9, 1, xs.map cStr⟩) rfl (by simp) (by intro e he; obtain ⟨x, _, q⟩ := List.mem_map.1 he; subst q; rfl)

theorem eqStringS_ok (xs : List ByteArray) (hb : (szList ByteArray.size) xs ≤ 1048576) (h : List Row) : PureCall Tryz.prog 53 [.list 0 1 (xs.map cStr), .list 0 1 (xs.map cStr)] h (.val (.bool true)) := by
  have hx := Nat.le_trans (szList_length (f := ByteArray.size) (xs := xs)) hb
  refine pure_fn mixed Tryz.func53 low_laws_eqStringS rfl rfl ?_ h
  simp (disch := omega) only [lf_laws_eqStringS, c_laws_eqStringS, Ex_cond, go_sem, Nat.reduceEqDiff, Nat.reduceAdd, Nat.reduceLeDiff, reduceCtorEq, Int.reduceLT, Int.reduceLE, Int.reduceNeg, Int.reduceSub, Int.reduceAdd, Int.reduceToNat, ↓reduceIte, wrap_in]
  refine Ex_loop (fun n t h => ∃ k : Nat, t 0 = .list 0 1 (xs.map cStr) ∧ t 1 = .list 0 1 (xs.map cStr) ∧ t 5 = .val (.int .i64 k) ∧ h = [] ∧ n = xs.length - k ∧ k ≤ xs.length) xs.length ?_ ?_
  · exact ⟨0, rfl, rfl, rfl, rfl, rfl, Nat.zero_le _⟩
  · rintro J hJ n t h ⟨k, t0, t1, t5, rfl, rfl, hk⟩
    by_cases hlt : k < xs.length
    · simp (disch := omega) only [t0, t1, t5, hlt, Ex_cond, go_sem, Nat.reduceEqDiff, Nat.reduceAdd, Nat.reduceLeDiff, reduceCtorEq, Int.reduceLT, Int.reduceLE, Int.reduceNeg, Int.reduceSub, Int.reduceAdd, Int.reduceToNat, ↓reduceIte, wrap_in]
      exact ⟨xs.length - (k + 1), by omega, hJ _ _ _ ⟨k + 1, by simp [upd, t0], by simp [upd, t1], by simp [upd], rfl, rfl, by omega⟩⟩
    · simp (disch := omega) only [t0, t1, t5, hlt, Ex_cond, go_sem, Nat.reduceEqDiff, Nat.reduceAdd, Nat.reduceLeDiff, reduceCtorEq, Int.reduceLT, Int.reduceLE, Int.reduceNeg, Int.reduceSub, Int.reduceAdd, Int.reduceToNat, ↓reduceIte, wrap_in]
      exact resolve_val _ _

theorem szEvent_ok (x : GEvent) (l : Int) (h0 : 0 ≤ l) (h1 : l ≤ 1048576) (hw : GEvent.wf x) (h : List Row) : PureCall Tryz.prog 8 [.agg (GEvent.cells x), .val (.int .i64 l)] h (.val (.int .i64 (szR (GEvent.sz x) l))) := by
  obtain ⟨w_Kind, w_Name, w_Subs, w_Value, w_N, _⟩ := hw
  have hsz : GEvent.sz x = ByteArray.size x.Name + (szList ByteArray.size) x.Subs + ByteArray.size x.Value := rfl
  refine pure_fn mixed Tryz.func8 low_laws_szEvent rfl rfl ?_ h
  unfold wfStr at w_Name
  unfold wfStr at w_Value
  simp (disch := omega) only [lf_laws_szEvent, c_laws_szEvent, GEvent.cells, Ex_cond, go_sem, Nat.reduceEqDiff, Nat.reduceAdd, Nat.reduceLeDiff, reduceCtorEq, Int.reduceLT, Int.reduceLE, Int.reduceNeg, Int.reduceSub, Int.reduceAdd, Int.reduceToNat, ↓reduceIte, wrap_in]
  refine ⟨fun hn => ?_, fun hn_Name => ?_⟩
  · rw [szR_neg (by omega)]; exact resolve_val _ _
  try simp (disch := omega) only [wrap_in]
  refine PureCall.call (szStringS_ok x.Subs (l - ByteArray.size x.Name) (by omega) (by omega) w_Subs _) ?_
  by_cases hn_Subs : ((szList ByteArray.size) x.Subs : Int) ≤ l - ByteArray.size x.Name
  case neg =>
    rw [szR_neg (n := (szList ByteArray.size) x.Subs) (l := l - ByteArray.size x.Name) (by omega)]
    simp (disch := omega) only [Ex_cond, go_sem, Nat.reduceEqDiff, Nat.reduceAdd, Nat.reduceLeDiff, reduceCtorEq, Int.reduceLT, Int.reduceLE, Int.reduceNeg, Int.reduceSub, Int.reduceAdd, Int.reduceToNat, ↓reduceIte, wrap_in]
    rw [szR_neg (by omega)]; exact resolve_val _ _
  rw [szR_pos (n := (szList ByteArray.size) x.Subs) (l := l - ByteArray.size x.Name) hn_Subs]
  simp (disch := omega) only [Ex_cond, go_sem, Nat.reduceEqDiff, Nat.reduceAdd, Nat.reduceLeDiff, reduceCtorEq, Int.reduceLT, Int.reduceLE, Int.reduceNeg, Int.reduceSub, Int.reduceAdd, Int.reduceToNat, ↓reduceIte, wrap_in]
  refine ⟨fun hn => absurd hn (by omega), fun _ => ?_⟩
  refine ⟨fun hn => ?_, fun hn_Value => ?_⟩
  · rw [szR_neg (by omega)]; exact resolve_val _ _
  try simp (disch := omega) only [wrap_in]
  rw [szR_pos (by omega), hsz]
  have hfin : l - ((ByteArray.size x.Name + (szList ByteArray.size) x.Subs + ByteArray.size x.Value : Nat) : Int) = l - ByteArray.size x.Name - (szList ByteArray.size) x.Subs - ByteArray.size x.Value := by omega
  rw [hfin]; exact resolve_val _ _

theorem toEvent_ok (x : GEvent) (hb : GEvent.sz x ≤ 1048576) (h : List Row) : PureCall Tryz.prog 10 [.agg (GEvent.cells x)] h (.agg (GEvent.cells x)) := by
  have hsz : GEvent.sz x = ByteArray.size x.Name + (szList ByteArray.size) x.Subs + ByteArray.size x.Value := rfl
  refine pure_fn mixed Tryz.func10 low_laws_toEvent rfl rfl ?_ h
  simp (disch := omega) only [lf_laws_toEvent, c_laws_toEvent, GEvent.cells, Ex_cond, go_sem, Nat.reduceEqDiff, Nat.reduceAdd, Nat.reduceLeDiff, reduceCtorEq, Int.reduceLT, Int.reduceLE, Int.reduceNeg, Int.reduceSub, Int.reduceAdd, Int.reduceToNat, ↓reduceIte, post_cell]
  refine PureCall.call (toStringS_ok x.Subs (by omega) _) ?_
  simp (disch := omega) only [Ex_cond, go_sem, Nat.reduceEqDiff, Nat.reduceAdd, Nat.reduceLeDiff, reduceCtorEq, Int.reduceLT, Int.reduceLE, Int.reduceNeg, Int.reduceSub, Int.reduceAdd, Int.reduceToNat, ↓reduceIte, post_cell]
  exact resolve_agg _ _ rfl

theorem eqEvent_ok (x : GEvent) (hb : GEvent.sz x ≤ 1048576) (h : List Row) : PureCall Tryz.prog 13 [.agg (GEvent.cells x), .agg (GEvent.cells x)] h (.val (.bool true)) := by
  have hsz : GEvent.sz x = ByteArray.size x.Name + (szList ByteArray.size) x.Subs + ByteArray.size x.Value := rfl
  refine pure_fn mixed Tryz.func13 low_laws_eqEvent rfl rfl ?_ h
  simp (disch := omega) only [lf_laws_eqEvent, c_laws_eqEvent, GEvent.cells, Ex_cond, go_sem, Nat.reduceEqDiff, Nat.reduceAdd, Nat.reduceLeDiff, reduceCtorEq, Int.reduceLT, Int.reduceLE, Int.reduceNeg, Int.reduceSub, Int.reduceAdd, Int.reduceToNat, ↓reduceIte]
  refine PureCall.call (eqStringS_ok x.Subs (by omega) _) ?_
  simp (disch := omega) only [Ex_cond, go_sem, Nat.reduceEqDiff, Nat.reduceAdd, Nat.reduceLeDiff, reduceCtorEq, Int.reduceLT, Int.reduceLE, Int.reduceNeg, Int.reduceSub, Int.reduceAdd, Int.reduceToNat, ↓reduceIte]
  exact resolve_val _ _

theorem szDoing_ok (x : GDoing) (l : Int) (h0 : 0 ≤ l) (h1 : l ≤ 1048576) (hw : GDoing.wf x) (h : List Row) : PureCall Tryz.prog 66 [.agg (GDoing.cells x), .val (.int .i64 l)] h (.val (.int .i64 (szR (GDoing.sz x) l))) := by
  obtain ⟨w_Job, w_Event, _⟩ := hw
  have hsz : GDoing.sz x = GEvent.sz x.Event := rfl
  refine pure_fn mixed Tryz.func66 low_laws_szDoing rfl rfl ?_ h
  simp (disch := omega) only [lf_laws_szDoing, c_laws_szDoing, GDoing.cells, Ex_cond, go_sem, Nat.reduceEqDiff, Nat.reduceAdd, Nat.reduceLeDiff, reduceCtorEq, Int.reduceLT, Int.reduceLE, Int.reduceNeg, Int.reduceSub, Int.reduceAdd, Int.reduceToNat, ↓reduceIte, wrap_in]
  refine PureCall.call (szEvent_ok x.Event (l) (by omega) (by omega) w_Event _) ?_
  by_cases hn_Event : (GEvent.sz x.Event : Int) ≤ l
  case neg =>
    rw [szR_neg (n := GEvent.sz x.Event) (l := l) (by omega)]
    simp (disch := omega) only [Ex_cond, go_sem, Nat.reduceEqDiff, Nat.reduceAdd, Nat.reduceLeDiff, reduceCtorEq, Int.reduceLT, Int.reduceLE, Int.reduceNeg, Int.reduceSub, Int.reduceAdd, Int.reduceToNat, ↓reduceIte, wrap_in]
    rw [szR_neg (by omega)]; exact resolve_val _ _
  rw [szR_pos (n := GEvent.sz x.Event) (l := l) hn_Event]
  simp (disch := omega) only [Ex_cond, go_sem, Nat.reduceEqDiff, Nat.reduceAdd, Nat.reduceLeDiff, reduceCtorEq, Int.reduceLT, Int.reduceLE, Int.reduceNeg, Int.reduceSub, Int.reduceAdd, Int.reduceToNat, ↓reduceIte, wrap_in]
  refine ⟨fun hn => absurd hn (by omega), fun _ => ?_⟩
  rw [szR_pos (by omega), hsz]
  have hfin : l - ((GEvent.sz x.Event : Nat) : Int) = l - GEvent.sz x.Event := by omega
  rw [hfin]; exact resolve_val _ _

theorem toDoing_ok (x : GDoing) (hb : GDoing.sz x ≤ 1048576) (h : List Row) : PureCall Tryz.prog 71 [.agg (GDoing.cells x)] h (.agg (GDoing.cells x)) := by
  have hsz : GDoing.sz x = GEvent.sz x.Event := rfl
  refine pure_fn mixed Tryz.func71 low_laws_toDoing rfl rfl ?_ h
  simp (disch := omega) only [lf_laws_toDoing, c_laws_toDoing, GDoing.cells, Ex_cond, go_sem, Nat.reduceEqDiff, Nat.reduceAdd, Nat.reduceLeDiff, reduceCtorEq, Int.reduceLT, Int.reduceLE, Int.reduceNeg, Int.reduceSub, Int.reduceAdd, Int.reduceToNat, ↓reduceIte, post_cell]
  refine PureCall.call (toEvent_ok x.Event (by omega) _) ?_
  simp (disch := omega) only [GEvent.cells, Ex_cond, go_sem, Nat.reduceEqDiff, Nat.reduceAdd, Nat.reduceLeDiff, reduceCtorEq, Int.reduceLT, Int.reduceLE, Int.reduceNeg, Int.reduceSub, Int.reduceAdd, Int.reduceToNat, ↓reduceIte, post_cell]
  exact resolve_agg _ _ rfl

theorem eqDoing_ok (x : GDoing) (hb : GDoing.sz x ≤ 1048576) (h : List Row) : PureCall Tryz.prog 76 [.agg (GDoing.cells x), .agg (GDoing.cells x)] h (.val (.bool true)) := by
  have hsz : GDoing.sz x = GEvent.sz x.Event := rfl
  refine pure_fn mixed Tryz.func76 low_laws_eqDoing rfl rfl ?_ h
  simp (disch := omega) only [lf_laws_eqDoing, c_laws_eqDoing, GDoing.cells, Ex_cond, go_sem, Nat.reduceEqDiff, Nat.reduceAdd, Nat.reduceLeDiff, reduceCtorEq, Int.reduceLT, Int.reduceLE, Int.reduceNeg, Int.reduceSub, Int.reduceAdd, Int.reduceToNat, ↓reduceIte]
  refine PureCall.call (eqEvent_ok x.Event (by omega) _) ?_
  simp (disch := omega) only [GEvent.cells, Ex_cond, go_sem, Nat.reduceEqDiff, Nat.reduceAdd, Nat.reduceLeDiff, reduceCtorEq, Int.reduceLT, Int.reduceLE, Int.reduceNeg, Int.reduceSub, Int.reduceAdd, Int.reduceToNat, ↓reduceIte]
  exact resolve_val _ _

theorem szDoingS_ok (xs : List GDoing) (l : Int) (h0 : 0 ≤ l) (h1 : l ≤ 1048576) (hw : wfList GDoing.wf xs) (h : List Row) : PureCall Tryz.prog 35 [.list 0 6 (xs.map GDoing.cells), .val (.int .i64 l)] h (.val (.int .i64 (szR (szList GDoing.sz xs) l))) := by
  obtain ⟨hx, hs⟩ := hw
  refine pure_fn mixed Tryz.func35 low_laws_szDoingS rfl rfl ?_ h
  simp (disch := omega) only [lf_laws_szDoingS, c_laws_szDoingS, Ex_cond, go_sem, Nat.reduceEqDiff, Nat.reduceAdd, Nat.reduceLeDiff, reduceCtorEq, Int.reduceLT, Int.reduceLE, Int.reduceNeg, Int.reduceSub, Int.reduceAdd, Int.reduceToNat, ↓reduceIte, wrap_in]
  refine ⟨fun hn => ?_, fun hn => ?_⟩
  · rw [szR_neg (by simp only [szList]; omega)]; exact resolve_val _ _
  · refine Ex_loop (fun n t h => ∃ (k : Nat) (m : Int), t 0 = .list 0 6 (xs.map GDoing.cells) ∧ t 5 = .val (.int .i64 k) ∧ t 1 = .val (.int .i64 m) ∧ h = [] ∧ n = xs.length - k ∧ k ≤ xs.length ∧ 0 ≤ m ∧ m ≤ 1048576 ∧ szR (szList GDoing.sz xs) l = szR (sumOf GDoing.sz (xs.drop k)) m) xs.length ?_ ?_
    · exact ⟨0, l - xs.length, rfl, rfl, rfl, rfl, rfl, Nat.zero_le _, by omega, by omega, szR_sub (by omega)⟩
    · rintro J hJ n t h ⟨k, m, t0, t5, t1, rfl, rfl, hk, hm0, hm1, hS⟩
      by_cases hlt : k < xs.length
      · have hd := sumOf_drop GDoing.sz xs k hlt
        have hwk := hs _ (List.getElem_mem hlt)
        rw [hd] at hS
        simp (disch := omega) only [t0, t5, t1, hlt, GDoing.cells, Ex_cond, go_sem, Nat.reduceEqDiff, Nat.reduceAdd, Nat.reduceLeDiff, reduceCtorEq, Int.reduceLT, Int.reduceLE, Int.reduceNeg, Int.reduceSub, Int.reduceAdd, Int.reduceToNat, ↓reduceIte, wrap_in]
        refine PureCall.call (szDoing_ok xs[k] m hm0 hm1 hwk []) ?_
        by_cases hc : (GDoing.sz xs[k] : Int) ≤ m
        · rw [szR_pos (n := GDoing.sz xs[k]) (l := m) hc]
          simp (disch := omega) only [t0, t5, t1, Ex_cond, go_sem, Nat.reduceEqDiff, Nat.reduceAdd, Nat.reduceLeDiff, reduceCtorEq, Int.reduceLT, Int.reduceLE, Int.reduceNeg, Int.reduceSub, Int.reduceAdd, Int.reduceToNat, ↓reduceIte, wrap_in]
          refine ⟨fun hn2 => absurd hn2 (by omega), fun _ => ?_⟩
          exact ⟨xs.length - (k + 1), by omega, hJ _ _ _ ⟨k + 1, m - GDoing.sz xs[k], by simp [upd, t0], by simp [upd], by simp [upd], rfl, rfl, by omega, by omega, by omega, by rw [hS, szR_sub (by omega)]⟩⟩
        · rw [szR_neg (n := GDoing.sz xs[k]) (l := m) (by omega)]
          simp (disch := omega) only [t0, t5, t1, Ex_cond, go_sem, Nat.reduceEqDiff, Nat.reduceAdd, Nat.reduceLeDiff, reduceCtorEq, Int.reduceLT, Int.reduceLE, Int.reduceNeg, Int.reduceSub, Int.reduceAdd, Int.reduceToNat, ↓reduceIte, wrap_in]
          rw [hS, szR_neg (by omega)]; exact resolve_val _ _
      · simp (disch := omega) only [t0, t5, t1, hlt, Ex_cond, go_sem, Nat.reduceEqDiff, Nat.reduceAdd, Nat.reduceLeDiff, reduceCtorEq, Int.reduceLT, Int.reduceLE, Int.reduceNeg, Int.reduceSub, Int.reduceAdd, Int.reduceToNat, ↓reduceIte]
        rw [hS, List.drop_eq_nil_of_le (by omega), szR_pos (by simp only [sumOf]; omega)]
        simp only [sumOf, Int.natCast_zero, Int.sub_zero]
        exact resolve_val _ _

theorem toDoingS_ok (xs : List GDoing) (hb : (szList GDoing.sz) xs ≤ 1048576) (h : List Row) : PureCall Tryz.prog 37 [.list 0 6 (xs.map GDoing.cells)] h (.list 0 6 (xs.map GDoing.cells)) := by
  have hx := Nat.le_trans (szList_length (f := GDoing.sz) (xs := xs)) hb
  refine pure_fn mixed Tryz.func37 low_laws_toDoingS rfl rfl ?_ h
  simp (disch := omega) only [lf_laws_toDoingS, c_laws_toDoingS, Ex_cond, go_sem, Nat.reduceEqDiff, Nat.reduceAdd, Nat.reduceLeDiff, reduceCtorEq, Int.reduceLT, Int.reduceLE, Int.reduceNeg, Int.reduceSub, Int.reduceAdd, Int.reduceToNat, ↓reduceIte, wrap_in]
  refine ⟨by omega, by omega, ?_⟩
  refine Ex_loop (fun n t h => ∃ k : Nat, t 0 = .list 0 6 (xs.map GDoing.cells) ∧ t 3 = .own 0 xs.length ∧ t 4 = .val (.int .i64 k) ∧ h = [⟨91, 6, fillTo (xs.map GDoing.cells) [.val (.int .i64 0), .val (.int .i64 0), .val (.string ⟨#[]⟩), .val (.slice none 0 0), .val (.string ⟨#[]⟩), .val (.int .i64 0)] k⟩] ∧ n = xs.length - k ∧ k ≤ xs.length) xs.length ?_ ?_
  · exact ⟨0, rfl, rfl, rfl, by rw [fillTo_zero]; simp, rfl, Nat.zero_le _⟩
  · rintro J hJ n t h ⟨k, t0, t3, t4, rfl, rfl, hk⟩
    have fl : (fillTo (xs.map GDoing.cells) [.val (.int .i64 0), .val (.int .i64 0), .val (.string ⟨#[]⟩), .val (.slice none 0 0), .val (.string ⟨#[]⟩), .val (.int .i64 0)] k).length = xs.length := by rw [fillTo_length _ _ (by simpa using hk)]; simp
    by_cases hlt : k < xs.length
    · have fg : (fillTo (xs.map GDoing.cells) [.val (.int .i64 0), .val (.int .i64 0), .val (.string ⟨#[]⟩), .val (.slice none 0 0), .val (.string ⟨#[]⟩), .val (.int .i64 0)] k)[k]? = some [.val (.int .i64 0), .val (.int .i64 0), .val (.string ⟨#[]⟩), .val (.slice none 0 0), .val (.string ⟨#[]⟩), .val (.int .i64 0)] := fillTo_get _ _ (by simpa using hlt)
      have fs := fillTo_set' (xs.map GDoing.cells) [.val (.int .i64 0), .val (.int .i64 0), .val (.string ⟨#[]⟩), .val (.slice none 0 0), .val (.string ⟨#[]⟩), .val (.int .i64 0)] (GDoing.cells xs[k]) (k := k) (by rw [List.getElem?_map, List.getElem?_eq_getElem hlt]; rfl)
      simp only [GDoing.cells] at fs
      simp (disch := omega) only [t0, t3, t4, hlt, fl, fg, GDoing.cells, Ex_cond, go_sem, Nat.reduceEqDiff, Nat.reduceAdd, Nat.reduceLeDiff, reduceCtorEq, Int.reduceLT, Int.reduceLE, Int.reduceNeg, Int.reduceSub, Int.reduceAdd, Int.reduceToNat, ↓reduceIte, wrap_in]
      refine PureCall.call (toDoing_ok xs[k] (by have := szList_mem (f := GDoing.sz) (List.getElem_mem hlt); omega) _) ?_
      simp (disch := omega) only [t0, t3, t4, hlt, fl, fg, fs, GDoing.cells, Ex_cond, go_sem, Nat.reduceEqDiff, Nat.reduceAdd, Nat.reduceLeDiff, reduceCtorEq, Int.reduceLT, Int.reduceLE, Int.reduceNeg, Int.reduceSub, Int.reduceAdd, Int.reduceToNat, ↓reduceIte, wrap_in]
      exact ⟨xs.length - (k + 1), by omega, hJ _ _ _ ⟨k + 1, by simp [upd, t0], by simp [upd, t3], by simp [upd], rfl, rfl, by omega⟩⟩
    · simp (disch := omega) only [t0, t3, t4, hlt, fl, Ex_cond, go_sem, Nat.reduceEqDiff, Nat.reduceAdd, Nat.reduceLeDiff, reduceCtorEq, Int.reduceLT, Int.reduceLE, Int.reduceNeg, Int.reduceSub, Int.reduceAdd, Int.reduceToNat, ↓reduceIte, wrap_in]
      have ff : fillTo (xs.map GDoing.cells) [.val (.int .i64 0), .val (.int .i64 0), .val (.string ⟨#[]⟩), .val (.slice none 0 0), .val (.string ⟨#[]⟩), .val (.int .i64 0)] k = xs.map GDoing.cells := fillTo_all _ _ (by simp; omega)
      rw [ff]
      exact resolve_own (r := ⟨91, 6, xs.map GDoing.cells⟩) rfl (by simp) (by intro e he; obtain ⟨x, _, q⟩ := List.mem_map.1 he; subst q; rfl)

theorem eqDoingS_ok (xs : List GDoing) (hb : (szList GDoing.sz) xs ≤ 1048576) (h : List Row) : PureCall Tryz.prog 40 [.list 0 6 (xs.map GDoing.cells), .list 0 6 (xs.map GDoing.cells)] h (.val (.bool true)) := by
  have hx := Nat.le_trans (szList_length (f := GDoing.sz) (xs := xs)) hb
  refine pure_fn mixed Tryz.func40 low_laws_eqDoingS rfl rfl ?_ h
  simp (disch := omega) only [lf_laws_eqDoingS, c_laws_eqDoingS, Ex_cond, go_sem, Nat.reduceEqDiff, Nat.reduceAdd, Nat.reduceLeDiff, reduceCtorEq, Int.reduceLT, Int.reduceLE, Int.reduceNeg, Int.reduceSub, Int.reduceAdd, Int.reduceToNat, ↓reduceIte, wrap_in]
  refine Ex_loop (fun n t h => ∃ k : Nat, t 0 = .list 0 6 (xs.map GDoing.cells) ∧ t 1 = .list 0 6 (xs.map GDoing.cells) ∧ t 5 = .val (.int .i64 k) ∧ h = [] ∧ n = xs.length - k ∧ k ≤ xs.length) xs.length ?_ ?_
  · exact ⟨0, rfl, rfl, rfl, rfl, rfl, Nat.zero_le _⟩
  · rintro J hJ n t h ⟨k, t0, t1, t5, rfl, rfl, hk⟩
    by_cases hlt : k < xs.length
    · simp (disch := omega) only [t0, t1, t5, hlt, GDoing.cells, Ex_cond, go_sem, Nat.reduceEqDiff, Nat.reduceAdd, Nat.reduceLeDiff, reduceCtorEq, Int.reduceLT, Int.reduceLE, Int.reduceNeg, Int.reduceSub, Int.reduceAdd, Int.reduceToNat, ↓reduceIte, wrap_in]
      refine PureCall.q (eqDoing_ok xs[k] (by have := szList_mem (f := GDoing.sz) (List.getElem_mem hlt); omega) _) ?_
      simp (disch := omega) only [t0, t1, t5, hlt, GDoing.cells, Ex_cond, go_sem, Nat.reduceEqDiff, Nat.reduceAdd, Nat.reduceLeDiff, reduceCtorEq, Int.reduceLT, Int.reduceLE, Int.reduceNeg, Int.reduceSub, Int.reduceAdd, Int.reduceToNat, ↓reduceIte, wrap_in]
      exact ⟨xs.length - (k + 1), by omega, hJ _ _ _ ⟨k + 1, by simp [upd, t0], by simp [upd, t1], by simp [upd], rfl, rfl, by omega⟩⟩
    · simp (disch := omega) only [t0, t1, t5, hlt, Ex_cond, go_sem, Nat.reduceEqDiff, Nat.reduceAdd, Nat.reduceLeDiff, reduceCtorEq, Int.reduceLT, Int.reduceLE, Int.reduceNeg, Int.reduceSub, Int.reduceAdd, Int.reduceToNat, ↓reduceIte, wrap_in]
      exact resolve_val _ _

end Go.Proofs.YtleolgjneaekcabGreatDoor
