/-
  Contracts of functions of this program, over abstract values. Conditions: as each theorem says.
-/
import Derived.Test.YtodgohgdnmifaaaGreatDoorBase
namespace Go.Proofs.YtodgohgdnmifaaaGreatDoor
open Go.AW
set_option linter.unusedVariables false
set_option linter.unusedSimpArgs false



def c_laws_szStringS : LC :=
 .seq (.ops [⟨some 4, none, .mov (.const (.int .i64 0))⟩]) (.seq (.ops [⟨some 6, none, .mov (.tmp 1)⟩, ⟨some 7, none, .mov (.tmp 0)⟩, ⟨some 8, none, .lenSl (.tmp 7)⟩, ⟨some 9, none, .bin .sub false (.tmp 6) (.tmp 8)⟩,
 ⟨some 1, none, .mov (.tmp 9)⟩]) (.seq (.seq (.ops [⟨some 10, none, .mov (.tmp 1)⟩, ⟨some 11, none, .bin .lss false (.tmp 10) (.const (.int .i64 0))⟩]) (.cond (.tmp 11) (.seq (.ops [⟨some 4, none, .mov (.const (.int .i64
 (-1)))⟩]) (.ret)) (.skip))) (.seq (.seq (.ops [⟨some 5, none, .mov (.const (.int .i64 0))⟩]) (.block 0 (.loop (.seq (.seq (.ops [⟨some 12, none, .mov (.tmp 5)⟩, ⟨some 13, none, .mov (.tmp 0)⟩, ⟨some 14, none, .lenSl (.tmp
 13)⟩, ⟨some 15, none, .bin .lss false (.tmp 12) (.tmp 14)⟩]) (.cond (.tmp 15) (.skip) (.exit 0))) (.seq (.block 1 (.seq (.ops [⟨some 18, none, .mov (.tmp 1)⟩, ⟨some 19, none, .mov (.tmp 0)⟩, ⟨some 20, none, .mov (.tmp
 5)⟩, ⟨some 21, none, .indexAddr 1 (.tmp 19) (.tmp 20)⟩, ⟨some 22, none, .load none (.tmp 21)⟩, ⟨some 23, none, .lenStr (.tmp 22)⟩, ⟨some 24, none, .bin .sub false (.tmp 18) (.tmp 23)⟩, ⟨some 1, none, .mov (.tmp 24)⟩])
 (.seq (.ops [⟨some 25, none, .mov (.tmp 1)⟩, ⟨some 26, none, .bin .lss false (.tmp 25) (.const (.int .i64 0))⟩]) (.cond (.tmp 26) (.seq (.ops [⟨some 4, none, .mov (.const (.int .i64 (-1)))⟩]) (.ret)) (.skip))))) (.ops
 [⟨some 16, none, .mov (.tmp 5)⟩, ⟨some 17, none, .bin .add false (.tmp 16) (.const (.int .i64 1))⟩, ⟨some 5, none, .mov (.tmp 17)⟩])))))) (.seq (.ops [⟨some 27, none, .mov (.tmp 1)⟩, ⟨some 4, none, .mov (.tmp 27)⟩])
 (.ret)))))
def lf_laws_szStringS : LF := { np := 2, N := 28, body := c_laws_szStringS, res := [.tmp 4] }
theorem low_laws_szStringS : LowF Tryz.prog Tryz.f19 lf_laws_szStringS := LowF.mk' (by kernel_rfl) (by kernel_rfl) (by kernel_rfl) (by decide)

def c_laws_toStringS : LC :=
 .seq (.ops [⟨some 2, none, .mov (.const (.slice none 0 0))⟩]) (.seq (.ops [⟨some 5, none, .mov (.tmp 0)⟩, ⟨some 6, none, .lenSl (.tmp 5)⟩, ⟨some 7, none, .mkSlice 9 1 16 (.string ⟨#[]⟩) (.tmp 6) (.tmp 6)⟩, ⟨some 3, none,
 .mov (.tmp 7)⟩]) (.seq (.seq (.ops [⟨some 4, none, .mov (.const (.int .i64 0))⟩]) (.block 0 (.loop (.seq (.seq (.ops [⟨some 8, none, .mov (.tmp 4)⟩, ⟨some 9, none, .mov (.tmp 0)⟩, ⟨some 10, none, .lenSl (.tmp 9)⟩, ⟨some
 11, none, .bin .lss false (.tmp 8) (.tmp 10)⟩]) (.cond (.tmp 11) (.skip) (.exit 0))) (.seq (.block 1 (.ops [⟨some 14, none, .mov (.tmp 3)⟩, ⟨some 15, none, .mov (.tmp 4)⟩, ⟨some 16, none, .mov (.tmp 0)⟩, ⟨some 17, none,
 .mov (.tmp 4)⟩, ⟨some 18, none, .indexAddr 1 (.tmp 16) (.tmp 17)⟩, ⟨some 19, none, .load none (.tmp 18)⟩, ⟨some 20, none, .indexAddr 1 (.tmp 14) (.tmp 15)⟩, ⟨none, none, .store 1 (.tmp 20) (.tmp 19)⟩])) (.ops [⟨some 12,
 none, .mov (.tmp 4)⟩, ⟨some 13, none, .bin .add false (.tmp 12) (.const (.int .i64 1))⟩, ⟨some 4, none, .mov (.tmp 13)⟩])))))) (.seq (.ops [⟨some 21, none, .mov (.tmp 3)⟩, ⟨some 2, none, .mov (.tmp 21)⟩]) (.ret))))
def lf_laws_toStringS : LF := { np := 1, N := 22, body := c_laws_toStringS, res := [.tmp 2] }
theorem low_laws_toStringS : LowF Tryz.prog Tryz.f21 lf_laws_toStringS := LowF.mk' (by kernel_rfl) (by kernel_rfl) (by kernel_rfl) (by decide)

def c_laws_eqStringS : LC :=
 .seq (.ops [⟨some 4, none, .mov (.const (.bool false))⟩]) (.seq (.seq (.ops [⟨some 6, none, .mov (.tmp 0)⟩, ⟨some 7, none, .lenSl (.tmp 6)⟩, ⟨some 8, none, .mov (.tmp 1)⟩, ⟨some 9, none, .lenSl (.tmp 8)⟩, ⟨some 10, none,
 .bin .neq false (.tmp 7) (.tmp 9)⟩]) (.cond (.tmp 10) (.seq (.ops [⟨some 4, none, .mov (.const (.bool false))⟩]) (.ret)) (.skip))) (.seq (.seq (.ops [⟨some 5, none, .mov (.const (.int .i64 0))⟩]) (.block 0 (.loop (.seq
 (.seq (.ops [⟨some 11, none, .mov (.tmp 5)⟩, ⟨some 12, none, .mov (.tmp 0)⟩, ⟨some 13, none, .lenSl (.tmp 12)⟩, ⟨some 14, none, .bin .lss false (.tmp 11) (.tmp 13)⟩]) (.cond (.tmp 14) (.skip) (.exit 0))) (.seq (.block 1
 (.seq (.dops [⟨some 17, none, .mov (.tmp 0)⟩, ⟨some 18, none, .mov (.tmp 5)⟩, ⟨some 19, none, .indexAddr 1 (.tmp 17) (.tmp 18)⟩, ⟨some 20, none, .load none (.tmp 19)⟩, ⟨some 21, none, .mov (.tmp 1)⟩, ⟨some 22, none, .mov
 (.tmp 5)⟩, ⟨some 23, none, .indexAddr 1 (.tmp 21) (.tmp 22)⟩, ⟨some 24, none, .load none (.tmp 23)⟩, ⟨some 25, none, .bin .neq false (.tmp 20) (.tmp 24)⟩]) (.cond (.tmp 25) (.seq (.ops [⟨some 4, none, .mov (.const (.bool
 false))⟩]) (.ret)) (.skip)))) (.ops [⟨some 15, none, .mov (.tmp 5)⟩, ⟨some 16, none, .bin .add false (.tmp 15) (.const (.int .i64 1))⟩, ⟨some 5, none, .mov (.tmp 16)⟩])))))) (.seq (.ops [⟨some 4, none, .mov (.const (.bool
 true))⟩]) (.ret))))
def lf_laws_eqStringS : LF := { np := 2, N := 26, body := c_laws_eqStringS, res := [.tmp 4] }
theorem low_laws_eqStringS : LowF Tryz.prog Tryz.f23 lf_laws_eqStringS := LowF.mk' (by kernel_rfl) (by kernel_rfl) (by kernel_rfl) (by decide)

def c_laws_szLock : LC :=
 .seq (.ops [⟨some 2, none, .box 87 (.tmp 0)⟩, ⟨some 4, none, .mov (.const (.int .i64 0))⟩]) (.seq (.ops [⟨some 5, none, .mov (.tmp 1)⟩, ⟨some 6, none, .fieldAddr 2 (.tmp 2)⟩, ⟨some 7, none, .load none (.tmp 6)⟩, ⟨some 8,
 none, .lenStr (.tmp 7)⟩, ⟨some 9, none, .bin .sub false (.tmp 5) (.tmp 8)⟩, ⟨some 1, none, .mov (.tmp 9)⟩]) (.seq (.seq (.ops [⟨some 10, none, .mov (.tmp 1)⟩, ⟨some 11, none, .bin .lss false (.tmp 10) (.const (.int .i64
 0))⟩]) (.cond (.tmp 11) (.seq (.ops [⟨some 4, none, .mov (.const (.int .i64 (-1)))⟩]) (.ret)) (.skip))) (.seq (.ops [⟨some 12, none, .fieldAddr 3 (.tmp 2)⟩, ⟨some 13, none, .load none (.tmp 12)⟩, ⟨some 14, none, .mov
 (.tmp 1)⟩, ⟨some 15, none, .call 19 [.tmp 13, .tmp 14]⟩, ⟨some 1, none, .mov (.tmp 15)⟩]) (.seq (.seq (.ops [⟨some 16, none, .mov (.tmp 1)⟩, ⟨some 17, none, .bin .lss false (.tmp 16) (.const (.int .i64 0))⟩]) (.cond (.tmp
 17) (.seq (.ops [⟨some 4, none, .mov (.const (.int .i64 (-1)))⟩]) (.ret)) (.skip))) (.seq (.ops [⟨some 18, none, .mov (.tmp 1)⟩, ⟨some 4, none, .mov (.tmp 18)⟩]) (.ret))))))
def lf_laws_szLock : LF := { np := 2, N := 19, body := c_laws_szLock, res := [.tmp 4] }
theorem low_laws_szLock : LowF Tryz.prog Tryz.f69 lf_laws_szLock := LowF.mk' (by kernel_rfl) (by kernel_rfl) (by kernel_rfl) (by decide)

def c_laws_toLock : LC :=
 .seq (.ops [⟨some 1, none, .box 87 (.tmp 0)⟩, ⟨some 2, none, .alloc 74 (.agg #[.int .i64 0, .int .i64 0, .string ⟨#[]⟩, .slice none 0 0])⟩]) (.seq (.ops [⟨some 3, none, .alloc 74 (.agg #[.int .i64 0, .int .i64 0, .string
 ⟨#[]⟩, .slice none 0 0])⟩]) (.seq (.ops [⟨some 4, none, .fieldAddr 0 (.tmp 1)⟩, ⟨some 5, none, .load none (.tmp 4)⟩, ⟨some 6, none, .fieldAddr 0 (.tmp 3)⟩, ⟨none, none, .store 1 (.tmp 6) (.tmp 5)⟩]) (.seq (.ops [⟨some 7,
 none, .fieldAddr 1 (.tmp 1)⟩, ⟨some 8, none, .load none (.tmp 7)⟩, ⟨some 9, none, .fieldAddr 1 (.tmp 3)⟩, ⟨none, none, .store 1 (.tmp 9) (.tmp 8)⟩]) (.seq (.ops [⟨some 10, none, .fieldAddr 2 (.tmp 1)⟩, ⟨some 11, none,
 .load none (.tmp 10)⟩, ⟨some 12, none, .fieldAddr 2 (.tmp 3)⟩, ⟨none, none, .store 1 (.tmp 12) (.tmp 11)⟩]) (.seq (.ops [⟨some 13, none, .fieldAddr 3 (.tmp 1)⟩, ⟨some 14, none, .load none (.tmp 13)⟩, ⟨some 15, none, .call
 21 [.tmp 14]⟩, ⟨some 16, none, .fieldAddr 3 (.tmp 3)⟩, ⟨none, none, .store 1 (.tmp 16) (.tmp 15)⟩]) (.seq (.ops [⟨some 17, none, .load (some 4) (.tmp 3)⟩, ⟨none, none, .store 4 (.tmp 2) (.tmp 17)⟩]) (.ret)))))))
def lf_laws_toLock : LF := { np := 1, N := 18, body := c_laws_toLock, res := [.cell 2 (some 4)] }
theorem low_laws_toLock : LowF Tryz.prog Tryz.f75 lf_laws_toLock := LowF.mk' (by kernel_rfl) (by kernel_rfl) (by kernel_rfl) (by decide)

def c_laws_eqLock : LC :=
 .seq (.ops [⟨some 2, none, .box 74 (.tmp 0)⟩, ⟨some 3, none, .box 74 (.tmp 1)⟩, ⟨some 4, none, .mov (.const (.bool false))⟩]) (.seq (.seq (.ops [⟨some 5, none, .fieldAddr 0 (.tmp 2)⟩, ⟨some 6, none, .load none (.tmp 5)⟩,
 ⟨some 7, none, .fieldAddr 0 (.tmp 3)⟩, ⟨some 8, none, .load none (.tmp 7)⟩, ⟨some 9, none, .bin .neq false (.tmp 6) (.tmp 8)⟩]) (.cond (.tmp 9) (.seq (.ops [⟨some 4, none, .mov (.const (.bool false))⟩]) (.ret)) (.skip)))
 (.seq (.seq (.ops [⟨some 10, none, .fieldAddr 1 (.tmp 2)⟩, ⟨some 11, none, .load none (.tmp 10)⟩, ⟨some 12, none, .fieldAddr 1 (.tmp 3)⟩, ⟨some 13, none, .load none (.tmp 12)⟩, ⟨some 14, none, .bin .neq false (.tmp 11)
 (.tmp 13)⟩]) (.cond (.tmp 14) (.seq (.ops [⟨some 4, none, .mov (.const (.bool false))⟩]) (.ret)) (.skip))) (.seq (.seq (.ops [⟨some 15, none, .fieldAddr 2 (.tmp 2)⟩, ⟨some 16, none, .load none (.tmp 15)⟩, ⟨some 17, none,
 .fieldAddr 2 (.tmp 3)⟩, ⟨some 18, none, .load none (.tmp 17)⟩, ⟨some 19, none, .bin .neq false (.tmp 16) (.tmp 18)⟩]) (.cond (.tmp 19) (.seq (.ops [⟨some 4, none, .mov (.const (.bool false))⟩]) (.ret)) (.skip))) (.seq
 (.seq (.ops [⟨some 20, none, .fieldAddr 3 (.tmp 2)⟩, ⟨some 21, none, .load none (.tmp 20)⟩, ⟨some 22, none, .fieldAddr 3 (.tmp 3)⟩, ⟨some 23, none, .load none (.tmp 22)⟩, ⟨some 24, none, .call 23 [.tmp 21, .tmp 23]⟩,
 ⟨some 25, none, .un .not (.tmp 24)⟩]) (.cond (.tmp 25) (.seq (.ops [⟨some 4, none, .mov (.const (.bool false))⟩]) (.ret)) (.skip))) (.seq (.ops [⟨some 4, none, .mov (.const (.bool true))⟩]) (.ret))))))
def lf_laws_eqLock : LF := { np := 2, N := 26, body := c_laws_eqLock, res := [.tmp 4] }
theorem low_laws_eqLock : LowF Tryz.prog Tryz.f81 lf_laws_eqLock := LowF.mk' (by kernel_rfl) (by kernel_rfl) (by kernel_rfl) (by decide)

def c_laws_szLockS : LC :=
 .seq (.ops [⟨some 4, none, .mov (.const (.int .i64 0))⟩]) (.seq (.ops [⟨some 6, none, .mov (.tmp 1)⟩, ⟨some 7, none, .mov (.tmp 0)⟩, ⟨some 8, none, .lenSl (.tmp 7)⟩, ⟨some 9, none, .bin .sub false (.tmp 6) (.tmp 8)⟩,
 ⟨some 1, none, .mov (.tmp 9)⟩]) (.seq (.seq (.ops [⟨some 10, none, .mov (.tmp 1)⟩, ⟨some 11, none, .bin .lss false (.tmp 10) (.const (.int .i64 0))⟩]) (.cond (.tmp 11) (.seq (.ops [⟨some 4, none, .mov (.const (.int .i64
 (-1)))⟩]) (.ret)) (.skip))) (.seq (.seq (.ops [⟨some 5, none, .mov (.const (.int .i64 0))⟩]) (.block 0 (.loop (.seq (.seq (.ops [⟨some 12, none, .mov (.tmp 5)⟩, ⟨some 13, none, .mov (.tmp 0)⟩, ⟨some 14, none, .lenSl (.tmp
 13)⟩, ⟨some 15, none, .bin .lss false (.tmp 12) (.tmp 14)⟩]) (.cond (.tmp 15) (.skip) (.exit 0))) (.seq (.block 1 (.seq (.ops [⟨some 18, none, .mov (.tmp 0)⟩, ⟨some 19, none, .mov (.tmp 5)⟩, ⟨some 20, none, .indexAddr 4
 (.tmp 18) (.tmp 19)⟩, ⟨some 21, none, .load (some 4) (.tmp 20)⟩, ⟨some 22, none, .mov (.tmp 1)⟩, ⟨some 23, none, .call 69 [.tmp 21, .tmp 22]⟩, ⟨some 1, none, .mov (.tmp 23)⟩]) (.seq (.ops [⟨some 24, none, .mov (.tmp 1)⟩,
 ⟨some 25, none, .bin .lss false (.tmp 24) (.const (.int .i64 0))⟩]) (.cond (.tmp 25) (.seq (.ops [⟨some 4, none, .mov (.const (.int .i64 (-1)))⟩]) (.ret)) (.skip))))) (.ops [⟨some 16, none, .mov (.tmp 5)⟩, ⟨some 17, none,
 .bin .add false (.tmp 16) (.const (.int .i64 1))⟩, ⟨some 5, none, .mov (.tmp 17)⟩])))))) (.seq (.ops [⟨some 26, none, .mov (.tmp 1)⟩, ⟨some 4, none, .mov (.tmp 26)⟩]) (.ret)))))
def lf_laws_szLockS : LF := { np := 2, N := 27, body := c_laws_szLockS, res := [.tmp 4] }
theorem low_laws_szLockS : LowF Tryz.prog Tryz.f30 lf_laws_szLockS := LowF.mk' (by kernel_rfl) (by kernel_rfl) (by kernel_rfl) (by decide)

def c_laws_toLockS : LC :=
 .seq (.ops [⟨some 2, none, .mov (.const (.slice none 0 0))⟩]) (.seq (.ops [⟨some 5, none, .mov (.tmp 0)⟩, ⟨some 6, none, .lenSl (.tmp 5)⟩, ⟨some 7, none, .mkSlice 74 4 56 (.agg #[.int .i64 0, .int .i64 0, .string ⟨#[]⟩,
 .slice none 0 0]) (.tmp 6) (.tmp 6)⟩, ⟨some 3, none, .mov (.tmp 7)⟩]) (.seq (.seq (.ops [⟨some 4, none, .mov (.const (.int .i64 0))⟩]) (.block 0 (.loop (.seq (.seq (.ops [⟨some 8, none, .mov (.tmp 4)⟩, ⟨some 9, none, .mov
 (.tmp 0)⟩, ⟨some 10, none, .lenSl (.tmp 9)⟩, ⟨some 11, none, .bin .lss false (.tmp 8) (.tmp 10)⟩]) (.cond (.tmp 11) (.skip) (.exit 0))) (.seq (.block 1 (.ops [⟨some 14, none, .mov (.tmp 3)⟩, ⟨some 15, none, .mov (.tmp
 4)⟩, ⟨some 16, none, .mov (.tmp 0)⟩, ⟨some 17, none, .mov (.tmp 4)⟩, ⟨some 18, none, .indexAddr 4 (.tmp 16) (.tmp 17)⟩, ⟨some 19, none, .load (some 4) (.tmp 18)⟩, ⟨some 20, none, .call 75 [.tmp 19]⟩, ⟨some 21, none,
 .indexAddr 4 (.tmp 14) (.tmp 15)⟩, ⟨none, none, .store 4 (.tmp 21) (.tmp 20)⟩])) (.ops [⟨some 12, none, .mov (.tmp 4)⟩, ⟨some 13, none, .bin .add false (.tmp 12) (.const (.int .i64 1))⟩, ⟨some 4, none, .mov (.tmp
 13)⟩])))))) (.seq (.ops [⟨some 22, none, .mov (.tmp 3)⟩, ⟨some 2, none, .mov (.tmp 22)⟩]) (.ret))))
def lf_laws_toLockS : LF := { np := 1, N := 23, body := c_laws_toLockS, res := [.tmp 2] }
theorem low_laws_toLockS : LowF Tryz.prog Tryz.f34 lf_laws_toLockS := LowF.mk' (by kernel_rfl) (by kernel_rfl) (by kernel_rfl) (by decide)

def c_laws_eqLockS : LC :=
 .seq (.ops [⟨some 4, none, .mov (.const (.bool false))⟩]) (.seq (.seq (.ops [⟨some 6, none, .mov (.tmp 0)⟩, ⟨some 7, none, .lenSl (.tmp 6)⟩, ⟨some 8, none, .mov (.tmp 1)⟩, ⟨some 9, none, .lenSl (.tmp 8)⟩, ⟨some 10, none,
 .bin .neq false (.tmp 7) (.tmp 9)⟩]) (.cond (.tmp 10) (.seq (.ops [⟨some 4, none, .mov (.const (.bool false))⟩]) (.ret)) (.skip))) (.seq (.seq (.ops [⟨some 5, none, .mov (.const (.int .i64 0))⟩]) (.block 0 (.loop (.seq
 (.seq (.ops [⟨some 11, none, .mov (.tmp 5)⟩, ⟨some 12, none, .mov (.tmp 0)⟩, ⟨some 13, none, .lenSl (.tmp 12)⟩, ⟨some 14, none, .bin .lss false (.tmp 11) (.tmp 13)⟩]) (.cond (.tmp 14) (.skip) (.exit 0))) (.seq (.block 1
 (.seq (.dops [⟨some 17, none, .mov (.tmp 0)⟩, ⟨some 18, none, .mov (.tmp 5)⟩, ⟨some 19, none, .indexAddr 4 (.tmp 17) (.tmp 18)⟩, ⟨some 20, none, .load (some 4) (.tmp 19)⟩, ⟨some 21, none, .mov (.tmp 1)⟩, ⟨some 22, none,
 .mov (.tmp 5)⟩, ⟨some 23, none, .indexAddr 4 (.tmp 21) (.tmp 22)⟩, ⟨some 24, none, .load (some 4) (.tmp 23)⟩, ⟨some 25, none, .call 81 [.tmp 20, .tmp 24]⟩, ⟨some 26, none, .un .not (.tmp 25)⟩]) (.cond (.tmp 26) (.seq
 (.ops [⟨some 4, none, .mov (.const (.bool false))⟩]) (.ret)) (.skip)))) (.ops [⟨some 15, none, .mov (.tmp 5)⟩, ⟨some 16, none, .bin .add false (.tmp 15) (.const (.int .i64 1))⟩, ⟨some 5, none, .mov (.tmp 16)⟩])))))) (.seq
 (.ops [⟨some 4, none, .mov (.const (.bool true))⟩]) (.ret))))
def lf_laws_eqLockS : LF := { np := 2, N := 27, body := c_laws_eqLockS, res := [.tmp 4] }
theorem low_laws_eqLockS : LowF Tryz.prog Tryz.f39 lf_laws_eqLockS := LowF.mk' (by kernel_rfl) (by kernel_rfl) (by kernel_rfl) (by decide)

def c_laws_szAsk : LC :=
 .seq (.ops [⟨some 2, none, .box 89 (.tmp 0)⟩, ⟨some 4, none, .mov (.const (.int .i64 0))⟩]) (.seq (.ops [⟨some 5, none, .mov (.tmp 1)⟩, ⟨some 6, none, .fieldAddr 2 (.tmp 2)⟩, ⟨some 7, none, .load none (.tmp 6)⟩, ⟨some 8,
 none, .lenStr (.tmp 7)⟩, ⟨some 9, none, .bin .sub false (.tmp 5) (.tmp 8)⟩, ⟨some 1, none, .mov (.tmp 9)⟩]) (.seq (.seq (.ops [⟨some 10, none, .mov (.tmp 1)⟩, ⟨some 11, none, .bin .lss false (.tmp 10) (.const (.int .i64
 0))⟩]) (.cond (.tmp 11) (.seq (.ops [⟨some 4, none, .mov (.const (.int .i64 (-1)))⟩]) (.ret)) (.skip))) (.seq (.ops [⟨some 12, none, .fieldAddr 3 (.tmp 2)⟩, ⟨some 13, none, .load none (.tmp 12)⟩, ⟨some 14, none, .mov
 (.tmp 1)⟩, ⟨some 15, none, .call 19 [.tmp 13, .tmp 14]⟩, ⟨some 1, none, .mov (.tmp 15)⟩]) (.seq (.seq (.ops [⟨some 16, none, .mov (.tmp 1)⟩, ⟨some 17, none, .bin .lss false (.tmp 16) (.const (.int .i64 0))⟩]) (.cond (.tmp
 17) (.seq (.ops [⟨some 4, none, .mov (.const (.int .i64 (-1)))⟩]) (.ret)) (.skip))) (.seq (.ops [⟨some 18, none, .mov (.tmp 1)⟩, ⟨some 4, none, .mov (.tmp 18)⟩]) (.ret))))))
def lf_laws_szAsk : LF := { np := 2, N := 19, body := c_laws_szAsk, res := [.tmp 4] }
theorem low_laws_szAsk : LowF Tryz.prog Tryz.f70 lf_laws_szAsk := LowF.mk' (by kernel_rfl) (by kernel_rfl) (by kernel_rfl) (by decide)

def c_laws_toAsk : LC :=
 .seq (.ops [⟨some 1, none, .box 89 (.tmp 0)⟩, ⟨some 2, none, .alloc 64 (.agg #[.int .i64 0, .int .i64 0, .string ⟨#[]⟩, .slice none 0 0])⟩]) (.seq (.ops [⟨some 3, none, .alloc 64 (.agg #[.int .i64 0, .int .i64 0, .string
 ⟨#[]⟩, .slice none 0 0])⟩]) (.seq (.ops [⟨some 4, none, .fieldAddr 0 (.tmp 1)⟩, ⟨some 5, none, .load none (.tmp 4)⟩, ⟨some 6, none, .fieldAddr 0 (.tmp 3)⟩, ⟨none, none, .store 1 (.tmp 6) (.tmp 5)⟩]) (.seq (.ops [⟨some 7,
 none, .fieldAddr 1 (.tmp 1)⟩, ⟨some 8, none, .load none (.tmp 7)⟩, ⟨some 9, none, .fieldAddr 1 (.tmp 3)⟩, ⟨none, none, .store 1 (.tmp 9) (.tmp 8)⟩]) (.seq (.ops [⟨some 10, none, .fieldAddr 2 (.tmp 1)⟩, ⟨some 11, none,
 .load none (.tmp 10)⟩, ⟨some 12, none, .fieldAddr 2 (.tmp 3)⟩, ⟨none, none, .store 1 (.tmp 12) (.tmp 11)⟩]) (.seq (.ops [⟨some 13, none, .fieldAddr 3 (.tmp 1)⟩, ⟨some 14, none, .load none (.tmp 13)⟩, ⟨some 15, none, .call
 21 [.tmp 14]⟩, ⟨some 16, none, .fieldAddr 3 (.tmp 3)⟩, ⟨none, none, .store 1 (.tmp 16) (.tmp 15)⟩]) (.seq (.ops [⟨some 17, none, .load (some 4) (.tmp 3)⟩, ⟨none, none, .store 4 (.tmp 2) (.tmp 17)⟩]) (.ret)))))))
def lf_laws_toAsk : LF := { np := 1, N := 18, body := c_laws_toAsk, res := [.cell 2 (some 4)] }
theorem low_laws_toAsk : LowF Tryz.prog Tryz.f76 lf_laws_toAsk := LowF.mk' (by kernel_rfl) (by kernel_rfl) (by kernel_rfl) (by decide)

def c_laws_eqAsk : LC :=
 .seq (.ops [⟨some 2, none, .box 64 (.tmp 0)⟩, ⟨some 3, none, .box 64 (.tmp 1)⟩, ⟨some 4, none, .mov (.const (.bool false))⟩]) (.seq (.seq (.ops [⟨some 5, none, .fieldAddr 0 (.tmp 2)⟩, ⟨some 6, none, .load none (.tmp 5)⟩,
 ⟨some 7, none, .fieldAddr 0 (.tmp 3)⟩, ⟨some 8, none, .load none (.tmp 7)⟩, ⟨some 9, none, .bin .neq false (.tmp 6) (.tmp 8)⟩]) (.cond (.tmp 9) (.seq (.ops [⟨some 4, none, .mov (.const (.bool false))⟩]) (.ret)) (.skip)))
 (.seq (.seq (.ops [⟨some 10, none, .fieldAddr 1 (.tmp 2)⟩, ⟨some 11, none, .load none (.tmp 10)⟩, ⟨some 12, none, .fieldAddr 1 (.tmp 3)⟩, ⟨some 13, none, .load none (.tmp 12)⟩, ⟨some 14, none, .bin .neq false (.tmp 11)
 (.tmp 13)⟩]) (.cond (.tmp 14) (.seq (.ops [⟨some 4, none, .mov (.const (.bool false))⟩]) (.ret)) (.skip))) (.seq (.seq (.ops [⟨some 15, none, .fieldAddr 2 (.tmp 2)⟩, ⟨some 16, none, .load none (.tmp 15)⟩, ⟨some 17, none,
 .fieldAddr 2 (.tmp 3)⟩, ⟨some 18, none, .load none (.tmp 17)⟩, ⟨some 19, none, .bin .neq false (.tmp 16) (.tmp 18)⟩]) (.cond (.tmp 19) (.seq (.ops [⟨some 4, none, .mov (.const (.bool false))⟩]) (.ret)) (.skip))) (.seq
 (.seq (.ops [⟨some 20, none, .fieldAddr 3 (.tmp 2)⟩, ⟨some 21, none, .load none (.tmp 20)⟩, ⟨some 22, none, .fieldAddr 3 (.tmp 3)⟩, ⟨some 23, none, .load none (.tmp 22)⟩, ⟨some 24, none, .call 23 [.tmp 21, .tmp 23]⟩,
 ⟨some 25, none, .un .not (.tmp 24)⟩]) (.cond (.tmp 25) (.seq (.ops [⟨some 4, none, .mov (.const (.bool false))⟩]) (.ret)) (.skip))) (.seq (.ops [⟨some 4, none, .mov (.const (.bool true))⟩]) (.ret))))))
def lf_laws_eqAsk : LF := { np := 2, N := 26, body := c_laws_eqAsk, res := [.tmp 4] }
theorem low_laws_eqAsk : LowF Tryz.prog Tryz.f82 lf_laws_eqAsk := LowF.mk' (by kernel_rfl) (by kernel_rfl) (by kernel_rfl) (by decide)

def c_laws_szAskS : LC :=
 .seq (.ops [⟨some 4, none, .mov (.const (.int .i64 0))⟩]) (.seq (.ops [⟨some 6, none, .mov (.tmp 1)⟩, ⟨some 7, none, .mov (.tmp 0)⟩, ⟨some 8, none, .lenSl (.tmp 7)⟩, ⟨some 9, none, .bin .sub false (.tmp 6) (.tmp 8)⟩,
 ⟨some 1, none, .mov (.tmp 9)⟩]) (.seq (.seq (.ops [⟨some 10, none, .mov (.tmp 1)⟩, ⟨some 11, none, .bin .lss false (.tmp 10) (.const (.int .i64 0))⟩]) (.cond (.tmp 11) (.seq (.ops [⟨some 4, none, .mov (.const (.int .i64
 (-1)))⟩]) (.ret)) (.skip))) (.seq (.seq (.ops [⟨some 5, none, .mov (.const (.int .i64 0))⟩]) (.block 0 (.loop (.seq (.seq (.ops [⟨some 12, none, .mov (.tmp 5)⟩, ⟨some 13, none, .mov (.tmp 0)⟩, ⟨some 14, none, .lenSl (.tmp
 13)⟩, ⟨some 15, none, .bin .lss false (.tmp 12) (.tmp 14)⟩]) (.cond (.tmp 15) (.skip) (.exit 0))) (.seq (.block 1 (.seq (.ops [⟨some 18, none, .mov (.tmp 0)⟩, ⟨some 19, none, .mov (.tmp 5)⟩, ⟨some 20, none, .indexAddr 4
 (.tmp 18) (.tmp 19)⟩, ⟨some 21, none, .load (some 4) (.tmp 20)⟩, ⟨some 22, none, .mov (.tmp 1)⟩, ⟨some 23, none, .call 70 [.tmp 21, .tmp 22]⟩, ⟨some 1, none, .mov (.tmp 23)⟩]) (.seq (.ops [⟨some 24, none, .mov (.tmp 1)⟩,
 ⟨some 25, none, .bin .lss false (.tmp 24) (.const (.int .i64 0))⟩]) (.cond (.tmp 25) (.seq (.ops [⟨some 4, none, .mov (.const (.int .i64 (-1)))⟩]) (.ret)) (.skip))))) (.ops [⟨some 16, none, .mov (.tmp 5)⟩, ⟨some 17, none,
 .bin .add false (.tmp 16) (.const (.int .i64 1))⟩, ⟨some 5, none, .mov (.tmp 17)⟩])))))) (.seq (.ops [⟨some 26, none, .mov (.tmp 1)⟩, ⟨some 4, none, .mov (.tmp 26)⟩]) (.ret)))))
def lf_laws_szAskS : LF := { np := 2, N := 27, body := c_laws_szAskS, res := [.tmp 4] }
theorem low_laws_szAskS : LowF Tryz.prog Tryz.f31 lf_laws_szAskS := LowF.mk' (by kernel_rfl) (by kernel_rfl) (by kernel_rfl) (by decide)

def c_laws_toAskS : LC :=
 .seq (.ops [⟨some 2, none, .mov (.const (.slice none 0 0))⟩]) (.seq (.ops [⟨some 5, none, .mov (.tmp 0)⟩, ⟨some 6, none, .lenSl (.tmp 5)⟩, ⟨some 7, none, .mkSlice 64 4 56 (.agg #[.int .i64 0, .int .i64 0, .string ⟨#[]⟩,
 .slice none 0 0]) (.tmp 6) (.tmp 6)⟩, ⟨some 3, none, .mov (.tmp 7)⟩]) (.seq (.seq (.ops [⟨some 4, none, .mov (.const (.int .i64 0))⟩]) (.block 0 (.loop (.seq (.seq (.ops [⟨some 8, none, .mov (.tmp 4)⟩, ⟨some 9, none, .mov
 (.tmp 0)⟩, ⟨some 10, none, .lenSl (.tmp 9)⟩, ⟨some 11, none, .bin .lss false (.tmp 8) (.tmp 10)⟩]) (.cond (.tmp 11) (.skip) (.exit 0))) (.seq (.block 1 (.ops [⟨some 14, none, .mov (.tmp 3)⟩, ⟨some 15, none, .mov (.tmp
 4)⟩, ⟨some 16, none, .mov (.tmp 0)⟩, ⟨some 17, none, .mov (.tmp 4)⟩, ⟨some 18, none, .indexAddr 4 (.tmp 16) (.tmp 17)⟩, ⟨some 19, none, .load (some 4) (.tmp 18)⟩, ⟨some 20, none, .call 76 [.tmp 19]⟩, ⟨some 21, none,
 .indexAddr 4 (.tmp 14) (.tmp 15)⟩, ⟨none, none, .store 4 (.tmp 21) (.tmp 20)⟩])) (.ops [⟨some 12, none, .mov (.tmp 4)⟩, ⟨some 13, none, .bin .add false (.tmp 12) (.const (.int .i64 1))⟩, ⟨some 4, none, .mov (.tmp
 13)⟩])))))) (.seq (.ops [⟨some 22, none, .mov (.tmp 3)⟩, ⟨some 2, none, .mov (.tmp 22)⟩]) (.ret))))
def lf_laws_toAskS : LF := { np := 1, N := 23, body := c_laws_toAskS, res := [.tmp 2] }
theorem low_laws_toAskS : LowF Tryz.prog Tryz.f35 lf_laws_toAskS := LowF.mk' (by kernel_rfl) (by kernel_rfl) (by kernel_rfl) (by decide)

def c_laws_eqAskS : LC :=
 .seq (.ops [⟨some 4, none, .mov (.const (.bool false))⟩]) (.seq (.seq (.ops [⟨some 6, none, .mov (.tmp 0)⟩, ⟨some 7, none, .lenSl (.tmp 6)⟩, ⟨some 8, none, .mov (.tmp 1)⟩, ⟨some 9, none, .lenSl (.tmp 8)⟩, ⟨some 10, none,
 .bin .neq false (.tmp 7) (.tmp 9)⟩]) (.cond (.tmp 10) (.seq (.ops [⟨some 4, none, .mov (.const (.bool false))⟩]) (.ret)) (.skip))) (.seq (.seq (.ops [⟨some 5, none, .mov (.const (.int .i64 0))⟩]) (.block 0 (.loop (.seq
 (.seq (.ops [⟨some 11, none, .mov (.tmp 5)⟩, ⟨some 12, none, .mov (.tmp 0)⟩, ⟨some 13, none, .lenSl (.tmp 12)⟩, ⟨some 14, none, .bin .lss false (.tmp 11) (.tmp 13)⟩]) (.cond (.tmp 14) (.skip) (.exit 0))) (.seq (.block 1
 (.seq (.dops [⟨some 17, none, .mov (.tmp 0)⟩, ⟨some 18, none, .mov (.tmp 5)⟩, ⟨some 19, none, .indexAddr 4 (.tmp 17) (.tmp 18)⟩, ⟨some 20, none, .load (some 4) (.tmp 19)⟩, ⟨some 21, none, .mov (.tmp 1)⟩, ⟨some 22, none,
 .mov (.tmp 5)⟩, ⟨some 23, none, .indexAddr 4 (.tmp 21) (.tmp 22)⟩, ⟨some 24, none, .load (some 4) (.tmp 23)⟩, ⟨some 25, none, .call 82 [.tmp 20, .tmp 24]⟩, ⟨some 26, none, .un .not (.tmp 25)⟩]) (.cond (.tmp 26) (.seq
 (.ops [⟨some 4, none, .mov (.const (.bool false))⟩]) (.ret)) (.skip)))) (.ops [⟨some 15, none, .mov (.tmp 5)⟩, ⟨some 16, none, .bin .add false (.tmp 15) (.const (.int .i64 1))⟩, ⟨some 5, none, .mov (.tmp 16)⟩])))))) (.seq
 (.ops [⟨some 4, none, .mov (.const (.bool true))⟩]) (.ret))))
def lf_laws_eqAskS : LF := { np := 2, N := 27, body := c_laws_eqAskS, res := [.tmp 4] }
theorem low_laws_eqAskS : LowF Tryz.prog Tryz.f40 lf_laws_eqAskS := LowF.mk' (by kernel_rfl) (by kernel_rfl) (by kernel_rfl) (by decide)

def c_laws_szLocks : LC :=
 .seq (.ops [⟨some 2, none, .box 25 (.tmp 0)⟩, ⟨some 4, none, .mov (.const (.int .i64 0))⟩]) (.seq (.ops [⟨some 5, none, .fieldAddr 0 (.tmp 2)⟩, ⟨some 6, none, .load none (.tmp 5)⟩, ⟨some 7, none, .mov (.tmp 1)⟩, ⟨some 8,
 none, .call 30 [.tmp 6, .tmp 7]⟩, ⟨some 1, none, .mov (.tmp 8)⟩]) (.seq (.seq (.ops [⟨some 9, none, .mov (.tmp 1)⟩, ⟨some 10, none, .bin .lss false (.tmp 9) (.const (.int .i64 0))⟩]) (.cond (.tmp 10) (.seq (.ops [⟨some 4,
 none, .mov (.const (.int .i64 (-1)))⟩]) (.ret)) (.skip))) (.seq (.ops [⟨some 11, none, .fieldAddr 1 (.tmp 2)⟩, ⟨some 12, none, .load none (.tmp 11)⟩, ⟨some 13, none, .mov (.tmp 1)⟩, ⟨some 14, none, .call 31 [.tmp 12, .tmp
 13]⟩, ⟨some 1, none, .mov (.tmp 14)⟩]) (.seq (.seq (.ops [⟨some 15, none, .mov (.tmp 1)⟩, ⟨some 16, none, .bin .lss false (.tmp 15) (.const (.int .i64 0))⟩]) (.cond (.tmp 16) (.seq (.ops [⟨some 4, none, .mov (.const (.int
 .i64 (-1)))⟩]) (.ret)) (.skip))) (.seq (.ops [⟨some 17, none, .mov (.tmp 1)⟩, ⟨some 4, none, .mov (.tmp 17)⟩]) (.ret))))))
def lf_laws_szLocks : LF := { np := 2, N := 18, body := c_laws_szLocks, res := [.tmp 4] }
theorem low_laws_szLocks : LowF Tryz.prog Tryz.f8 lf_laws_szLocks := LowF.mk' (by kernel_rfl) (by kernel_rfl) (by kernel_rfl) (by decide)

def c_laws_toLocks : LC :=
 .seq (.ops [⟨some 1, none, .box 25 (.tmp 0)⟩, ⟨some 2, none, .alloc 32 (.agg #[.slice none 0 0, .slice none 0 0])⟩]) (.seq (.ops [⟨some 3, none, .alloc 32 (.agg #[.slice none 0 0, .slice none 0 0])⟩]) (.seq (.ops [⟨some
 4, none, .fieldAddr 0 (.tmp 1)⟩, ⟨some 5, none, .load none (.tmp 4)⟩, ⟨some 6, none, .call 34 [.tmp 5]⟩, ⟨some 7, none, .fieldAddr 0 (.tmp 3)⟩, ⟨none, none, .store 1 (.tmp 7) (.tmp 6)⟩]) (.seq (.ops [⟨some 8, none,
 .fieldAddr 1 (.tmp 1)⟩, ⟨some 9, none, .load none (.tmp 8)⟩, ⟨some 10, none, .call 35 [.tmp 9]⟩, ⟨some 11, none, .fieldAddr 1 (.tmp 3)⟩, ⟨none, none, .store 1 (.tmp 11) (.tmp 10)⟩]) (.seq (.ops [⟨some 12, none, .load
 (some 2) (.tmp 3)⟩, ⟨none, none, .store 2 (.tmp 2) (.tmp 12)⟩]) (.ret)))))
def lf_laws_toLocks : LF := { np := 1, N := 13, body := c_laws_toLocks, res := [.cell 2 (some 2)] }
theorem low_laws_toLocks : LowF Tryz.prog Tryz.f10 lf_laws_toLocks := LowF.mk' (by kernel_rfl) (by kernel_rfl) (by kernel_rfl) (by decide)

def c_laws_eqLocks : LC :=
 .seq (.ops [⟨some 2, none, .box 32 (.tmp 0)⟩, ⟨some 3, none, .box 32 (.tmp 1)⟩, ⟨some 4, none, .mov (.const (.bool false))⟩]) (.seq (.seq (.ops [⟨some 5, none, .fieldAddr 0 (.tmp 2)⟩, ⟨some 6, none, .load none (.tmp 5)⟩,
 ⟨some 7, none, .fieldAddr 0 (.tmp 3)⟩, ⟨some 8, none, .load none (.tmp 7)⟩, ⟨some 9, none, .call 39 [.tmp 6, .tmp 8]⟩, ⟨some 10, none, .un .not (.tmp 9)⟩]) (.cond (.tmp 10) (.seq (.ops [⟨some 4, none, .mov (.const (.bool
 false))⟩]) (.ret)) (.skip))) (.seq (.seq (.ops [⟨some 11, none, .fieldAddr 1 (.tmp 2)⟩, ⟨some 12, none, .load none (.tmp 11)⟩, ⟨some 13, none, .fieldAddr 1 (.tmp 3)⟩, ⟨some 14, none, .load none (.tmp 13)⟩, ⟨some 15, none,
 .call 40 [.tmp 12, .tmp 14]⟩, ⟨some 16, none, .un .not (.tmp 15)⟩]) (.cond (.tmp 16) (.seq (.ops [⟨some 4, none, .mov (.const (.bool false))⟩]) (.ret)) (.skip))) (.seq (.ops [⟨some 4, none, .mov (.const (.bool true))⟩])
 (.ret))))
def lf_laws_eqLocks : LF := { np := 2, N := 17, body := c_laws_eqLocks, res := [.tmp 4] }
theorem low_laws_eqLocks : LowF Tryz.prog Tryz.f13 lf_laws_eqLocks := LowF.mk' (by kernel_rfl) (by kernel_rfl) (by kernel_rfl) (by decide)

def c_laws_eqInt64S : LC :=
 .seq (.ops [⟨some 4, none, .mov (.const (.bool false))⟩]) (.seq (.seq (.ops [⟨some 6, none, .mov (.tmp 0)⟩, ⟨some 7, none, .lenSl (.tmp 6)⟩, ⟨some 8, none, .mov (.tmp 1)⟩, ⟨some 9, none, .lenSl (.tmp 8)⟩, ⟨some 10, none,
 .bin .neq false (.tmp 7) (.tmp 9)⟩]) (.cond (.tmp 10) (.seq (.ops [⟨some 4, none, .mov (.const (.bool false))⟩]) (.ret)) (.skip))) (.seq (.seq (.ops [⟨some 5, none, .mov (.const (.int .i64 0))⟩]) (.block 0 (.loop (.seq
 (.seq (.ops [⟨some 11, none, .mov (.tmp 5)⟩, ⟨some 12, none, .mov (.tmp 0)⟩, ⟨some 13, none, .lenSl (.tmp 12)⟩, ⟨some 14, none, .bin .lss false (.tmp 11) (.tmp 13)⟩]) (.cond (.tmp 14) (.skip) (.exit 0))) (.seq (.block 1
 (.seq (.dops [⟨some 17, none, .mov (.tmp 0)⟩, ⟨some 18, none, .mov (.tmp 5)⟩, ⟨some 19, none, .indexAddr 1 (.tmp 17) (.tmp 18)⟩, ⟨some 20, none, .load none (.tmp 19)⟩, ⟨some 21, none, .mov (.tmp 1)⟩, ⟨some 22, none, .mov
 (.tmp 5)⟩, ⟨some 23, none, .indexAddr 1 (.tmp 21) (.tmp 22)⟩, ⟨some 24, none, .load none (.tmp 23)⟩, ⟨some 25, none, .bin .neq false (.tmp 20) (.tmp 24)⟩]) (.cond (.tmp 25) (.seq (.ops [⟨some 4, none, .mov (.const (.bool
 false))⟩]) (.ret)) (.skip)))) (.ops [⟨some 15, none, .mov (.tmp 5)⟩, ⟨some 16, none, .bin .add false (.tmp 15) (.const (.int .i64 1))⟩, ⟨some 5, none, .mov (.tmp 16)⟩])))))) (.seq (.ops [⟨some 4, none, .mov (.const (.bool
 true))⟩]) (.ret))))
def lf_laws_eqInt64S : LF := { np := 2, N := 26, body := c_laws_eqInt64S, res := [.tmp 4] }
theorem low_laws_eqInt64S : LowF Tryz.prog Tryz.f12 lf_laws_eqInt64S := LowF.mk' (by kernel_rfl) (by kernel_rfl) (by kernel_rfl) (by decide)

theorem szStringS_ok (xs : List ByteArray) (l : Int) (h0 : 0 ≤ l) (h1 : l ≤ 1048576) (hw : wfList wfStr xs) (h : List Row) : PureCall Tryz.prog 19 [.list 0 1 (xs.map cStr), .val (.int .i64 l)] h (.val (.int .i64 (szR (szList ByteArray.size xs) l))) := by
  obtain ⟨hx, hs⟩ := hw
  refine pure_fn mixed Tryz.func19 low_laws_szStringS rfl rfl ?_ h
  simp (disch := omega) only [lf_laws_szStringS, c_laws_szStringS, Ex_cond, go_sem, Nat.reduceEqDiff, Nat.reduceAdd, Nat.reduceLeDiff, reduceCtorEq, Int.reduceLT, Int.reduceLE, Int.reduceNeg, Int.reduceSub, Int.reduceAdd, Int.reduceToNat, ↓reduceIte, wrap_in]
  refine ⟨fun hn => ?_, fun hn => ?_⟩
  · rw [szR_neg (by simp only [szList]; omega)]; exact resolve_val _ _
  · refine Ex_loop (fun n t h => ∃ (k : Nat) (m : Int), t 0 = .list 0 1 (xs.map cStr) ∧ t 5 = .val (.int .i64 k) ∧ t 1 = .val (.int .i64 m) ∧ h = [] ∧ n = xs.length - k ∧ k ≤ xs.length ∧ 0 ≤ m ∧ m ≤ 1048576 ∧ szR (szList ByteArray.size xs) l = szR (sumOf ByteArray.size (xs.drop k)) m) xs.length ?_ ?_
    · exact ⟨0, l - xs.length, rfl, rfl, rfl, rfl, rfl, Nat.zero_le _, by omega, by omega, szR_sub (by omega)⟩
    · rintro J hJ n t h ⟨k, m, t0, t5, t1, rfl, rfl, hk, hm0, hm1, hS⟩
      by_cases hlt : k < xs.length
      · have hd := sumOf_drop ByteArray.size xs k hlt
        have hwk := hs _ (List.getElem_mem hlt)
        rw [hd] at hS
        unfold wfStr at hwk
        simp (disch := omega) only [t0, t5, t1, hlt, Ex_cond, go_sem, Nat.reduceEqDiff, Nat.reduceAdd, Nat.reduceLeDiff, reduceCtorEq, Int.reduceLT, Int.reduceLE, Int.reduceNeg, Int.reduceSub, Int.reduceAdd, Int.reduceToNat, ↓reduceIte, wrap_in]
        refine ⟨fun hn2 => ?_, fun hn2 => ?_⟩
        · rw [hS, szR_neg (by omega)]; exact resolve_val _ _
        · exact ⟨xs.length - (k + 1), by omega, hJ _ _ _ ⟨k + 1, m - xs[k].size, by simp [upd, t0], by simp [upd], by simp [upd], rfl, rfl, by omega, by omega, by omega, by rw [hS, szR_sub (by omega)]⟩⟩
      · simp (disch := omega) only [t0, t5, t1, hlt, Ex_cond, go_sem, Nat.reduceEqDiff, Nat.reduceAdd, Nat.reduceLeDiff, reduceCtorEq, Int.reduceLT, Int.reduceLE, Int.reduceNeg, Int.reduceSub, Int.reduceAdd, Int.reduceToNat, ↓reduceIte]
        rw [hS, List.drop_eq_nil_of_le (by omega), szR_pos (by simp only [sumOf]; omega)]
        simp only [sumOf, Int.natCast_zero, Int.sub_zero]
        exact resolve_val _ _

theorem toStringS_ok (xs : List ByteArray) (hb : (szList ByteArray.size) xs ≤ 1048576) (h : List Row) : PureCall Tryz.prog 21 [.list 0 1 (xs.map cStr)] h (.list 0 1 (xs.map cStr)) := by
  have hx := Nat.le_trans (szList_length (f := ByteArray.size) (xs := xs)) hb
  refine pure_fn mixed Tryz.func21 low_laws_toStringS rfl rfl ?_ h
  simp (disch := omega) only [lf_laws_toStringS, c_laws_toStringS, Ex_cond, go_sem, Nat.reduceEqDiff, Nat.reduceAdd, Nat.reduceLeDiff, reduceCtorEq, Int.reduceLT, Int.reduceLE, Int.reduceNeg, Int.reduceSub, Int.reduceAdd, Int.reduceToNat, ↓reduceIte, wrap_in]
  refine ⟨by omega, by omega, ?_⟩
  refine Ex_loop (fun n t h => ∃ k : Nat, t 0 = .list 0 1 (xs.map cStr) ∧ t 3 = .own 0 xs.length ∧ t 4 = .val (.int .i64 k) ∧ h = [⟨9, 1, fillTo (xs.map cStr) [.val (.string ⟨#[]⟩)] k⟩] ∧ n = xs.length - k ∧ k ≤ xs.length) xs.length ?_ ?_
  · exact ⟨0, rfl, rfl, rfl, by rw [fillTo_zero]; simp, rfl, Nat.zero_le _⟩
  · rintro J hJ n t h ⟨k, t0, t3, t4, rfl, rfl, hk⟩
    have fl : (fillTo (xs.map cStr) [.val (.string ⟨#[]⟩)] k).length = xs.length := by rw [fillTo_length _ _ (by simpa using hk)]; simp
    by_cases hlt : k < xs.length
    · have fg : (fillTo (xs.map cStr) [.val (.string ⟨#[]⟩)] k)[k]? = some [.val (.string ⟨#[]⟩)] := fillTo_get _ _ (by simpa using hlt)
      have fs := fillTo_set' (xs.map cStr) [.val (.string ⟨#[]⟩)] (cStr xs[k]) (k := k) (by rw [List.getElem?_map, List.getElem?_eq_getElem hlt]; rfl)
      simp (disch := omega) only [t0, t3, t4, hlt, fl, fg, Ex_cond, go_sem, Nat.reduceEqDiff, Nat.reduceAdd, Nat.reduceLeDiff, reduceCtorEq, Int.reduceLT, Int.reduceLE, Int.reduceNeg, Int.reduceSub, Int.reduceAdd, Int.reduceToNat, ↓reduceIte, wrap_in]
      try simp (disch := omega) only [fs, fl, fg, Ex_cond, go_sem, Nat.reduceEqDiff, Nat.reduceAdd, Nat.reduceLeDiff, reduceCtorEq, Int.reduceLT, Int.reduceLE, Int.reduceNeg, Int.reduceSub, Int.reduceAdd, Int.reduceToNat, ↓reduceIte, wrap_in]
      exact ⟨xs.length - (k + 1), by omega, hJ _ _ _ ⟨k + 1, by simp [upd, t0], by simp [upd, t3], by simp [upd], by simp [fs], rfl, by omega⟩⟩
    · simp (disch := omega) only [t0, t3, t4, hlt, fl, Ex_cond, go_sem, Nat.reduceEqDiff, Nat.reduceAdd, Nat.reduceLeDiff, reduceCtorEq, Int.reduceLT, Int.reduceLE, Int.reduceNeg, Int.reduceSub, Int.reduceAdd, Int.reduceToNat, ↓reduceIte, wrap_in]
      have ff : fillTo (xs.map cStr) [.val (.string ⟨#[]⟩)] k = xs.map cStr := fillTo_all _ _ (by simp; omega)
      rw [ff]
      exact resolve_own (r := ⟨9, 1, xs.map cStr⟩) rfl (by simp) (by intro e he; obtain ⟨x, _, q⟩ := List.mem_map.1 he; subst q; rfl)

theorem eqStringS_ok (xs : List ByteArray) (hb : (szList ByteArray.size) xs ≤ 1048576) (h : List Row) : PureCall Tryz.prog 23 [.list 0 1 (xs.map cStr), .list 0 1 (xs.map cStr)] h (.val (.bool true)) := by
  have hx := Nat.le_trans (szList_length (f := ByteArray.size) (xs := xs)) hb
  refine pure_fn mixed Tryz.func23 low_laws_eqStringS rfl rfl ?_ h
  simp (disch := omega) only [lf_laws_eqStringS, c_laws_eqStringS, Ex_cond, go_sem, Nat.reduceEqDiff, Nat.reduceAdd, Nat.reduceLeDiff, reduceCtorEq, Int.reduceLT, Int.reduceLE, Int.reduceNeg, Int.reduceSub, Int.reduceAdd, Int.reduceToNat, ↓reduceIte, wrap_in]
  refine Ex_loop (fun n t h => ∃ k : Nat, t 0 = .list 0 1 (xs.map cStr) ∧ t 1 = .list 0 1 (xs.map cStr) ∧ t 5 = .val (.int .i64 k) ∧ h = [] ∧ n = xs.length - k ∧ k ≤ xs.length) xs.length ?_ ?_
  · exact ⟨0, rfl, rfl, rfl, rfl, rfl, Nat.zero_le _⟩
  · rintro J hJ n t h ⟨k, t0, t1, t5, rfl, rfl, hk⟩
    by_cases hlt : k < xs.length
    · simp (disch := omega) only [t0, t1, t5, hlt, Ex_cond, go_sem, Nat.reduceEqDiff, Nat.reduceAdd, Nat.reduceLeDiff, reduceCtorEq, Int.reduceLT, Int.reduceLE, Int.reduceNeg, Int.reduceSub, Int.reduceAdd, Int.reduceToNat, ↓reduceIte, wrap_in]
      exact ⟨xs.length - (k + 1), by omega, hJ _ _ _ ⟨k + 1, by simp [upd, t0], by simp [upd, t1], by simp [upd], rfl, rfl, by omega⟩⟩
    · simp (disch := omega) only [t0, t1, t5, hlt, Ex_cond, go_sem, Nat.reduceEqDiff, Nat.reduceAdd, Nat.reduceLeDiff, reduceCtorEq, Int.reduceLT, Int.reduceLE, Int.reduceNeg, Int.reduceSub, Int.reduceAdd, Int.reduceToNat, ↓reduceIte, wrap_in]
      exact resolve_val _ _

theorem szLock_ok (x : GLock) (l : Int) (h0 : 0 ≤ l) (h1 : l ≤ 1048576) (hw : GLock.wf x) (h : List Row) : PureCall Tryz.prog 69 [.agg (GLock.cells x), .val (.int .i64 l)] h (.val (.int .i64 (szR (GLock.sz x) l))) := by
  obtain ⟨w_Job, w_Count, w_Name, w_Subs, _⟩ := hw
  have hsz : GLock.sz x = ByteArray.size x.Name + (szList ByteArray.size) x.Subs := rfl
  refine pure_fn mixed Tryz.func69 low_laws_szLock rfl rfl ?_ h
  unfold wfStr at w_Name
  simp (disch := omega) only [lf_laws_szLock, c_laws_szLock, GLock.cells, Ex_cond, go_sem, Nat.reduceEqDiff, Nat.reduceAdd, Nat.reduceLeDiff, reduceCtorEq, Int.reduceLT, Int.reduceLE, Int.reduceNeg, Int.reduceSub, Int.reduceAdd, Int.reduceToNat, ↓reduceIte, wrap_in]
  refine ⟨fun hn => ?_, fun hn_Name => ?_⟩
  · rw [szR_neg (by omega)]; exact resolve_val _ _
  try simp (disch := omega) only [wrap_in]
  refine PureCall.call (szStringS_ok x.Subs (l - ByteArray.size x.Name) (by omega) (by omega) w_Subs _) ?_
  by_cases hn_Subs : ((szList ByteArray.size) x.Subs : Int) ≤ l - ByteArray.size x.Name
  case neg =>
    rw [szR_neg (n := (szList ByteArray.size) x.Subs) (l := l - ByteArray.size x.Name) (by omega)]
    simp (disch := omega) only [Ex_cond, go_sem, Nat.reduceEqDiff, Nat.reduceAdd, Nat.reduceLeDiff, reduceCtorEq, Int.reduceLT, Int.reduceLE, Int.reduceNeg, Int.reduceSub, Int.reduceAdd, Int.reduceToNat, ↓reduceIte, wrap_in]
    rw [szR_neg (by omega)]; exact resolve_val _ _
  rw [szR_pos (n := (szList ByteArray.size) x.Subs) (l := l - ByteArray.size x.Name) hn_Subs]
  simp (disch := omega) only [Ex_cond, go_sem, Nat.reduceEqDiff, Nat.reduceAdd, Nat.reduceLeDiff, reduceCtorEq, Int.reduceLT, Int.reduceLE, Int.reduceNeg, Int.reduceSub, Int.reduceAdd, Int.reduceToNat, ↓reduceIte, wrap_in]
  refine ⟨fun hn => absurd hn (by omega), fun _ => ?_⟩
  rw [szR_pos (by omega), hsz]
  have hfin : l - ((ByteArray.size x.Name + (szList ByteArray.size) x.Subs : Nat) : Int) = l - ByteArray.size x.Name - (szList ByteArray.size) x.Subs := by omega
  rw [hfin]; exact resolve_val _ _

theorem toLock_ok (x : GLock) (hb : GLock.sz x ≤ 1048576) (h : List Row) : PureCall Tryz.prog 75 [.agg (GLock.cells x)] h (.agg (GLock.cells x)) := by
  have hsz : GLock.sz x = ByteArray.size x.Name + (szList ByteArray.size) x.Subs := rfl
  refine pure_fn mixed Tryz.func75 low_laws_toLock rfl rfl ?_ h
  simp (disch := omega) only [lf_laws_toLock, c_laws_toLock, GLock.cells, Ex_cond, go_sem, Nat.reduceEqDiff, Nat.reduceAdd, Nat.reduceLeDiff, reduceCtorEq, Int.reduceLT, Int.reduceLE, Int.reduceNeg, Int.reduceSub, Int.reduceAdd, Int.reduceToNat, ↓reduceIte, post_cell]
  refine PureCall.call (toStringS_ok x.Subs (by omega) _) ?_
  simp (disch := omega) only [Ex_cond, go_sem, Nat.reduceEqDiff, Nat.reduceAdd, Nat.reduceLeDiff, reduceCtorEq, Int.reduceLT, Int.reduceLE, Int.reduceNeg, Int.reduceSub, Int.reduceAdd, Int.reduceToNat, ↓reduceIte, post_cell]
  exact resolve_agg _ _ rfl

theorem eqLock_ok (x : GLock) (hb : GLock.sz x ≤ 1048576) (h : List Row) : PureCall Tryz.prog 81 [.agg (GLock.cells x), .agg (GLock.cells x)] h (.val (.bool true)) := by
  have hsz : GLock.sz x = ByteArray.size x.Name + (szList ByteArray.size) x.Subs := rfl
  refine pure_fn mixed Tryz.func81 low_laws_eqLock rfl rfl ?_ h
  simp (disch := omega) only [lf_laws_eqLock, c_laws_eqLock, GLock.cells, Ex_cond, go_sem, Nat.reduceEqDiff, Nat.reduceAdd, Nat.reduceLeDiff, reduceCtorEq, Int.reduceLT, Int.reduceLE, Int.reduceNeg, Int.reduceSub, Int.reduceAdd, Int.reduceToNat, ↓reduceIte]
  refine PureCall.call (eqStringS_ok x.Subs (by omega) _) ?_
  simp (disch := omega) only [Ex_cond, go_sem, Nat.reduceEqDiff, Nat.reduceAdd, Nat.reduceLeDiff, reduceCtorEq, Int.reduceLT, Int.reduceLE, Int.reduceNeg, Int.reduceSub, Int.reduceAdd, Int.reduceToNat, ↓reduceIte]
  exact resolve_val _ _

theorem szLockS_ok (xs : List GLock) (l : Int) (h0 : 0 ≤ l) (h1 : l ≤ 1048576) (hw : wfList GLock.wf xs) (h : List Row) : PureCall Tryz.prog 30 [.list 0 4 (xs.map GLock.cells), .val (.int .i64 l)] h (.val (.int .i64 (szR (szList GLock.sz xs) l))) := by
  obtain ⟨hx, hs⟩ := hw
  refine pure_fn mixed Tryz.func30 low_laws_szLockS rfl rfl ?_ h
  simp (disch := omega) only [lf_laws_szLockS, c_laws_szLockS, Ex_cond, go_sem, Nat.reduceEqDiff, Nat.reduceAdd, Nat.reduceLeDiff, reduceCtorEq, Int.reduceLT, Int.reduceLE, Int.reduceNeg, Int.reduceSub, Int.reduceAdd, Int.reduceToNat, ↓reduceIte, wrap_in]
  refine ⟨fun hn => ?_, fun hn => ?_⟩
  · rw [szR_neg (by simp only [szList]; omega)]; exact resolve_val _ _
  · refine Ex_loop (fun n t h => ∃ (k : Nat) (m : Int), t 0 = .list 0 4 (xs.map GLock.cells) ∧ t 5 = .val (.int .i64 k) ∧ t 1 = .val (.int .i64 m) ∧ h = [] ∧ n = xs.length - k ∧ k ≤ xs.length ∧ 0 ≤ m ∧ m ≤ 1048576 ∧ szR (szList GLock.sz xs) l = szR (sumOf GLock.sz (xs.drop k)) m) xs.length ?_ ?_
    · exact ⟨0, l - xs.length, rfl, rfl, rfl, rfl, rfl, Nat.zero_le _, by omega, by omega, szR_sub (by omega)⟩
    · rintro J hJ n t h ⟨k, m, t0, t5, t1, rfl, rfl, hk, hm0, hm1, hS⟩
      by_cases hlt : k < xs.length
      · have hd := sumOf_drop GLock.sz xs k hlt
        have hwk := hs _ (List.getElem_mem hlt)
        rw [hd] at hS
        simp (disch := omega) only [t0, t5, t1, hlt, GLock.cells, Ex_cond, go_sem, Nat.reduceEqDiff, Nat.reduceAdd, Nat.reduceLeDiff, reduceCtorEq, Int.reduceLT, Int.reduceLE, Int.reduceNeg, Int.reduceSub, Int.reduceAdd, Int.reduceToNat, ↓reduceIte, wrap_in]
        refine PureCall.call (szLock_ok xs[k] m hm0 hm1 hwk []) ?_
        by_cases hc : (GLock.sz xs[k] : Int) ≤ m
        · rw [szR_pos (n := GLock.sz xs[k]) (l := m) hc]
          simp (disch := omega) only [t0, t5, t1, Ex_cond, go_sem, Nat.reduceEqDiff, Nat.reduceAdd, Nat.reduceLeDiff, reduceCtorEq, Int.reduceLT, Int.reduceLE, Int.reduceNeg, Int.reduceSub, Int.reduceAdd, Int.reduceToNat, ↓reduceIte, wrap_in]
          refine ⟨fun hn2 => absurd hn2 (by omega), fun _ => ?_⟩
          exact ⟨xs.length - (k + 1), by omega, hJ _ _ _ ⟨k + 1, m - GLock.sz xs[k], by simp [upd, t0], by simp [upd], by simp [upd], rfl, rfl, by omega, by omega, by omega, by rw [hS, szR_sub (by omega)]⟩⟩
        · rw [szR_neg (n := GLock.sz xs[k]) (l := m) (by omega)]
          simp (disch := omega) only [t0, t5, t1, Ex_cond, go_sem, Nat.reduceEqDiff, Nat.reduceAdd, Nat.reduceLeDiff, reduceCtorEq, Int.reduceLT, Int.reduceLE, Int.reduceNeg, Int.reduceSub, Int.reduceAdd, Int.reduceToNat, ↓reduceIte, wrap_in]
          rw [hS, szR_neg (by omega)]; exact resolve_val _ _
      · simp (disch := omega) only [t0, t5, t1, hlt, Ex_cond, go_sem, Nat.reduceEqDiff, Nat.reduceAdd, Nat.reduceLeDiff, reduceCtorEq, Int.reduceLT, Int.reduceLE, Int.reduceNeg, Int.reduceSub, Int.reduceAdd, Int.reduceToNat, ↓reduceIte]
        rw [hS, List.drop_eq_nil_of_le (by omega), szR_pos (by simp only [sumOf]; omega)]
        simp only [sumOf, Int.natCast_zero, Int.sub_zero]
        exact resolve_val _ _

theorem toLockS_ok (xs : List GLock) (hb : (szList GLock.sz) xs ≤ 1048576) (h : List Row) : PureCall Tryz.prog 34 [.list 0 4 (xs.map GLock.cells)] h (.list 0 4 (xs.map GLock.cells)) := by
  have hx := Nat.le_trans (szList_length (f := GLock.sz) (xs := xs)) hb
  refine pure_fn mixed Tryz.func34 low_laws_toLockS rfl rfl ?_ h
  simp (disch := omega) only [lf_laws_toLockS, c_laws_toLockS, Ex_cond, go_sem, Nat.reduceEqDiff, Nat.reduceAdd, Nat.reduceLeDiff, reduceCtorEq, Int.reduceLT, Int.reduceLE, Int.reduceNeg, Int.reduceSub, Int.reduceAdd, Int.reduceToNat, ↓reduceIte, wrap_in]
  refine ⟨by omega, by omega, ?_⟩
  refine Ex_loop (fun n t h => ∃ k : Nat, t 0 = .list 0 4 (xs.map GLock.cells) ∧ t 3 = .own 0 xs.length ∧ t 4 = .val (.int .i64 k) ∧ h = [⟨74, 4, fillTo (xs.map GLock.cells) [.val (.int .i64 0), .val (.int .i64 0), .val (.string ⟨#[]⟩), .val (.slice none 0 0)] k⟩] ∧ n = xs.length - k ∧ k ≤ xs.length) xs.length ?_ ?_
  · exact ⟨0, rfl, rfl, rfl, by rw [fillTo_zero]; simp, rfl, Nat.zero_le _⟩
  · rintro J hJ n t h ⟨k, t0, t3, t4, rfl, rfl, hk⟩
    have fl : (fillTo (xs.map GLock.cells) [.val (.int .i64 0), .val (.int .i64 0), .val (.string ⟨#[]⟩), .val (.slice none 0 0)] k).length = xs.length := by rw [fillTo_length _ _ (by simpa using hk)]; simp
    by_cases hlt : k < xs.length
    · have fg : (fillTo (xs.map GLock.cells) [.val (.int .i64 0), .val (.int .i64 0), .val (.string ⟨#[]⟩), .val (.slice none 0 0)] k)[k]? = some [.val (.int .i64 0), .val (.int .i64 0), .val (.string ⟨#[]⟩), .val (.slice none 0 0)] := fillTo_get _ _ (by simpa using hlt)
      have fs := fillTo_set' (xs.map GLock.cells) [.val (.int .i64 0), .val (.int .i64 0), .val (.string ⟨#[]⟩), .val (.slice none 0 0)] (GLock.cells xs[k]) (k := k) (by rw [List.getElem?_map, List.getElem?_eq_getElem hlt]; rfl)
      simp only [GLock.cells] at fs
      simp (disch := omega) only [t0, t3, t4, hlt, fl, fg, GLock.cells, Ex_cond, go_sem, Nat.reduceEqDiff, Nat.reduceAdd, Nat.reduceLeDiff, reduceCtorEq, Int.reduceLT, Int.reduceLE, Int.reduceNeg, Int.reduceSub, Int.reduceAdd, Int.reduceToNat, ↓reduceIte, wrap_in]
      refine PureCall.call (toLock_ok xs[k] (by have := szList_mem (f := GLock.sz) (List.getElem_mem hlt); omega) _) ?_
      simp (disch := omega) only [t0, t3, t4, hlt, fl, fg, fs, GLock.cells, Ex_cond, go_sem, Nat.reduceEqDiff, Nat.reduceAdd, Nat.reduceLeDiff, reduceCtorEq, Int.reduceLT, Int.reduceLE, Int.reduceNeg, Int.reduceSub, Int.reduceAdd, Int.reduceToNat, ↓reduceIte, wrap_in]
      exact ⟨xs.length - (k + 1), by omega, hJ _ _ _ ⟨k + 1, by simp [upd, t0], by simp [upd, t3], by simp [upd], rfl, rfl, by omega⟩⟩
    · simp (disch := omega) only [t0, t3, t4, hlt, fl, Ex_cond, go_sem, Nat.reduceEqDiff, Nat.reduceAdd, Nat.reduceLeDiff, reduceCtorEq, Int.reduceLT, Int.reduceLE, Int.reduceNeg, Int.reduceSub, Int.reduceAdd, Int.reduceToNat, ↓reduceIte, wrap_in]
      have ff : fillTo (xs.map GLock.cells) [.val (.int .i64 0), .val (.int .i64 0), .val (.string ⟨#[]⟩), .val (.slice none 0 0)] k = xs.map GLock.cells := fillTo_all _ _ (by simp; omega)
      rw [ff]
      exact resolve_own (r := ⟨74, 4, xs.map GLock.cells⟩) rfl (by simp) (by intro e he; obtain ⟨x, _, q⟩ := List.mem_map.1 he; subst q; rfl)

theorem eqLockS_ok (xs : List GLock) (hb : (szList GLock.sz) xs ≤ 1048576) (h : List Row) : PureCall Tryz.prog 39 [.list 0 4 (xs.map GLock.cells), .list 0 4 (xs.map GLock.cells)] h (.val (.bool true)) := by
  have hx := Nat.le_trans (szList_length (f := GLock.sz) (xs := xs)) hb
  refine pure_fn mixed Tryz.func39 low_laws_eqLockS rfl rfl ?_ h
  simp (disch := omega) only [lf_laws_eqLockS, c_laws_eqLockS, Ex_cond, go_sem, Nat.reduceEqDiff, Nat.reduceAdd, Nat.reduceLeDiff, reduceCtorEq, Int.reduceLT, Int.reduceLE, Int.reduceNeg, Int.reduceSub, Int.reduceAdd, Int.reduceToNat, ↓reduceIte, wrap_in]
  refine Ex_loop (fun n t h => ∃ k : Nat, t 0 = .list 0 4 (xs.map GLock.cells) ∧ t 1 = .list 0 4 (xs.map GLock.cells) ∧ t 5 = .val (.int .i64 k) ∧ h = [] ∧ n = xs.length - k ∧ k ≤ xs.length) xs.length ?_ ?_
  · exact ⟨0, rfl, rfl, rfl, rfl, rfl, Nat.zero_le _⟩
  · rintro J hJ n t h ⟨k, t0, t1, t5, rfl, rfl, hk⟩
    by_cases hlt : k < xs.length
    · simp (disch := omega) only [t0, t1, t5, hlt, GLock.cells, Ex_cond, go_sem, Nat.reduceEqDiff, Nat.reduceAdd, Nat.reduceLeDiff, reduceCtorEq, Int.reduceLT, Int.reduceLE, Int.reduceNeg, Int.reduceSub, Int.reduceAdd, Int.reduceToNat, ↓reduceIte, wrap_in]
      refine PureCall.q (eqLock_ok xs[k] (by have := szList_mem (f := GLock.sz) (List.getElem_mem hlt); omega) _) ?_
      simp (disch := omega) only [t0, t1, t5, hlt, GLock.cells, Ex_cond, go_sem, Nat.reduceEqDiff, Nat.reduceAdd, Nat.reduceLeDiff, reduceCtorEq, Int.reduceLT, Int.reduceLE, Int.reduceNeg, Int.reduceSub, Int.reduceAdd, Int.reduceToNat, ↓reduceIte, wrap_in]
      exact ⟨xs.length - (k + 1), by omega, hJ _ _ _ ⟨k + 1, by simp [upd, t0], by simp [upd, t1], by simp [upd], rfl, rfl, by omega⟩⟩
    · simp (disch := omega) only [t0, t1, t5, hlt, Ex_cond, go_sem, Nat.reduceEqDiff, Nat.reduceAdd, Nat.reduceLeDiff, reduceCtorEq, Int.reduceLT, Int.reduceLE, Int.reduceNeg, Int.reduceSub, Int.reduceAdd, Int.reduceToNat, ↓reduceIte, wrap_in]
      exact resolve_val _ _

theorem szAsk_ok (x : GAsk) (l : Int) (h0 : 0 ≤ l) (h1 : l ≤ 1048576) (hw : GAsk.wf x) (h : List Row) : PureCall Tryz.prog 70 [.agg (GAsk.cells x), .val (.int .i64 l)] h (.val (.int .i64 (szR (GAsk.sz x) l))) := by
  obtain ⟨w_Job, w_Until, w_Name, w_Subs, _⟩ := hw
  have hsz : GAsk.sz x = ByteArray.size x.Name + (szList ByteArray.size) x.Subs := rfl
  refine pure_fn mixed Tryz.func70 low_laws_szAsk rfl rfl ?_ h
  unfold wfStr at w_Name
  simp (disch := omega) only [lf_laws_szAsk, c_laws_szAsk, GAsk.cells, Ex_cond, go_sem, Nat.reduceEqDiff, Nat.reduceAdd, Nat.reduceLeDiff, reduceCtorEq, Int.reduceLT, Int.reduceLE, Int.reduceNeg, Int.reduceSub, Int.reduceAdd, Int.reduceToNat, ↓reduceIte, wrap_in]
  refine ⟨fun hn => ?_, fun hn_Name => ?_⟩
  · rw [szR_neg (by omega)]; exact resolve_val _ _
  try simp (disch := omega) only [wrap_in]
  refine PureCall.call (szStringS_ok x.Subs (l - ByteArray.size x.Name) (by omega) (by omega) w_Subs _) ?_
  by_cases hn_Subs : ((szList ByteArray.size) x.Subs : Int) ≤ l - ByteArray.size x.Name
  case neg =>
    rw [szR_neg (n := (szList ByteArray.size) x.Subs) (l := l - ByteArray.size x.Name) (by omega)]
    simp (disch := omega) only [Ex_cond, go_sem, Nat.reduceEqDiff, Nat.reduceAdd, Nat.reduceLeDiff, reduceCtorEq, Int.reduceLT, Int.reduceLE, Int.reduceNeg, Int.reduceSub, Int.reduceAdd, Int.reduceToNat, ↓reduceIte, wrap_in]
    rw [szR_neg (by omega)]; exact resolve_val _ _
  rw [szR_pos (n := (szList ByteArray.size) x.Subs) (l := l - ByteArray.size x.Name) hn_Subs]
  simp (disch := omega) only [Ex_cond, go_sem, Nat.reduceEqDiff, Nat.reduceAdd, Nat.reduceLeDiff, reduceCtorEq, Int.reduceLT, Int.reduceLE, Int.reduceNeg, Int.reduceSub, Int.reduceAdd, Int.reduceToNat, ↓reduceIte, wrap_in]
  refine ⟨fun hn => absurd hn (by omega), fun _ => ?_⟩
  rw [szR_pos (by omega), hsz]
  have hfin : l - ((ByteArray.size x.Name + (szList ByteArray.size) x.Subs : Nat) : Int) = l - ByteArray.size x.Name - (szList ByteArray.size) x.Subs := by omega
  rw [hfin]; exact resolve_val _ _

theorem toAsk_ok (x : GAsk) (hb : GAsk.sz x ≤ 1048576) (h : List Row) : PureCall Tryz.prog 76 [.agg (GAsk.cells x)] h (.agg (GAsk.cells x)) := by
  have hsz : GAsk.sz x = ByteArray.size x.Name + (szList ByteArray.size) x.Subs := rfl
  refine pure_fn mixed Tryz.func76 low_laws_toAsk rfl rfl ?_ h
  simp (disch := omega) only [lf_laws_toAsk, c_laws_toAsk, GAsk.cells, Ex_cond, go_sem, Nat.reduceEqDiff, Nat.reduceAdd, Nat.reduceLeDiff, reduceCtorEq, Int.reduceLT, Int.reduceLE, Int.reduceNeg, Int.reduceSub, Int.reduceAdd, Int.reduceToNat, ↓reduceIte, post_cell]
  refine PureCall.call (toStringS_ok x.Subs (by omega) _) ?_
  simp (disch := omega) only [Ex_cond, go_sem, Nat.reduceEqDiff, Nat.reduceAdd, Nat.reduceLeDiff, reduceCtorEq, Int.reduceLT, Int.reduceLE, Int.reduceNeg, Int.reduceSub, Int.reduceAdd, Int.reduceToNat, ↓reduceIte, post_cell]
  exact resolve_agg _ _ rfl

theorem eqAsk_ok (x : GAsk) (hb : GAsk.sz x ≤ 1048576) (h : List Row) : PureCall Tryz.prog 82 [.agg (GAsk.cells x), .agg (GAsk.cells x)] h (.val (.bool true)) := by
  have hsz : GAsk.sz x = ByteArray.size x.Name + (szList ByteArray.size) x.Subs := rfl
  refine pure_fn mixed Tryz.func82 low_laws_eqAsk rfl rfl ?_ h
  simp (disch := omega) only [lf_laws_eqAsk, c_laws_eqAsk, GAsk.cells, Ex_cond, go_sem, Nat.reduceEqDiff, Nat.reduceAdd, Nat.reduceLeDiff, reduceCtorEq, Int.reduceLT, Int.reduceLE, Int.reduceNeg, Int.reduceSub, Int.reduceAdd, Int.reduceToNat, ↓reduceIte]
  refine PureCall.call (eqStringS_ok x.Subs (by omega) _) ?_
  simp (disch := omega) only [Ex_cond, go_sem, Nat.reduceEqDiff, Nat.reduceAdd, Nat.reduceLeDiff, reduceCtorEq, Int.reduceLT, Int.reduceLE, Int.reduceNeg, Int.reduceSub, Int.reduceAdd, Int.reduceToNat, ↓reduceIte]
  exact resolve_val _ _

theorem szAskS_ok (xs : List GAsk) (l : Int) (h0 : 0 ≤ l) (h1 : l ≤ 1048576) (hw : wfList GAsk.wf xs) (h : List Row) : PureCall Tryz.prog 31 [.list 0 4 (xs.map GAsk.cells), .val (.int .i64 l)] h (.val (.int .i64 (szR (szList GAsk.sz xs) l))) := by
  obtain ⟨hx, hs⟩ := hw
  refine pure_fn mixed Tryz.func31 low_laws_szAskS rfl rfl ?_ h
  simp (disch := omega) only [lf_laws_szAskS, c_laws_szAskS, Ex_cond, go_sem, Nat.reduceEqDiff, Nat.reduceAdd, Nat.reduceLeDiff, reduceCtorEq, Int.reduceLT, Int.reduceLE, Int.reduceNeg, Int.reduceSub, Int.reduceAdd, Int.reduceToNat, ↓reduceIte, wrap_in]
  refine ⟨fun hn => ?_, fun hn => ?_⟩
  · rw [szR_neg (by simp only [szList]; omega)]; exact resolve_val _ _
  · refine Ex_loop (fun n t h => ∃ (k : Nat) (m : Int), t 0 = .list 0 4 (xs.map GAsk.cells) ∧ t 5 = .val (.int .i64 k) ∧ t 1 = .val (.int .i64 m) ∧ h = [] ∧ n = xs.length - k ∧ k ≤ xs.length ∧ 0 ≤ m ∧ m ≤ 1048576 ∧ szR (szList GAsk.sz xs) l = szR (sumOf GAsk.sz (xs.drop k)) m) xs.length ?_ ?_
    · exact ⟨0, l - xs.length, rfl, rfl, rfl, rfl, rfl, Nat.zero_le _, by omega, by omega, szR_sub (by omega)⟩
    · rintro J hJ n t h ⟨k, m, t0, t5, t1, rfl, rfl, hk, hm0, hm1, hS⟩
      by_cases hlt : k < xs.length
      · have hd := sumOf_drop GAsk.sz xs k hlt
        have hwk := hs _ (List.getElem_mem hlt)
        rw [hd] at hS
        simp (disch := omega) only [t0, t5, t1, hlt, GAsk.cells, Ex_cond, go_sem, Nat.reduceEqDiff, Nat.reduceAdd, Nat.reduceLeDiff, reduceCtorEq, Int.reduceLT, Int.reduceLE, Int.reduceNeg, Int.reduceSub, Int.reduceAdd, Int.reduceToNat, ↓reduceIte, wrap_in]
        refine PureCall.call (szAsk_ok xs[k] m hm0 hm1 hwk []) ?_
        by_cases hc : (GAsk.sz xs[k] : Int) ≤ m
        · rw [szR_pos (n := GAsk.sz xs[k]) (l := m) hc]
          simp (disch := omega) only [t0, t5, t1, Ex_cond, go_sem, Nat.reduceEqDiff, Nat.reduceAdd, Nat.reduceLeDiff, reduceCtorEq, Int.reduceLT, Int.reduceLE, Int.reduceNeg, Int.reduceSub, Int.reduceAdd, Int.reduceToNat, ↓reduceIte, wrap_in]
          refine ⟨fun hn2 => absurd hn2 (by omega), fun _ => ?_⟩
          exact ⟨xs.length - (k + 1), by omega, hJ _ _ _ ⟨k + 1, m - GAsk.sz xs[k], by simp [upd, t0], by simp [upd], by simp [upd], rfl, rfl, by omega, by omega, by omega, by rw [hS, szR_sub (by omega)]⟩⟩
        · rw [szR_neg (n := GAsk.sz xs[k]) (l := m) (by omega)]
          simp (disch := omega) only [t0, t5, t1, Ex_cond, go_sem, Nat.reduceEqDiff, Nat.reduceAdd, Nat.reduceLeDiff, reduceCtorEq, Int.reduceLT, Int.reduceLE, Int.reduceNeg, Int.reduceSub, Int.reduceAdd, Int.reduceToNat, ↓reduceIte, wrap_in]
          rw [hS, szR_neg (by omega)]; exact resolve_val _ _
      · simp (disch := omega) only [t0, t5, t1, hlt, Ex_cond, go_sem, Nat.reduceEqDiff, Nat.reduceAdd, Nat.reduceLeDiff, reduceCtorEq, Int.reduceLT, Int.reduceLE, Int.reduceNeg, Int.reduceSub, Int.reduceAdd, Int.reduceToNat, ↓reduceIte]
        rw [hS, List.drop_eq_nil_of_le (by omega), szR_pos (by simp only [sumOf]; omega)]
        simp only [sumOf, Int.natCast_zero, Int.sub_zero]
        exact resolve_val _ _

theorem toAskS_ok (xs : List GAsk) (hb : (szList GAsk.sz) xs ≤ 1048576) (h : List Row) : PureCall Tryz.prog 35 [.list 0 4 (xs.map GAsk.cells)] h (.list 0 4 (xs.map GAsk.cells)) := by
  have hx := Nat.le_trans (szList_length (f := GAsk.sz) (xs := xs)) hb
  refine pure_fn mixed Tryz.func35 low_laws_toAskS rfl rfl ?_ h
  simp (disch := omega) only [lf_laws_toAskS, c_laws_toAskS, Ex_cond, go_sem, Nat.reduceEqDiff, Nat.reduceAdd, Nat.reduceLeDiff, reduceCtorEq, Int.reduceLT, Int.reduceLE, Int.reduceNeg, Int.reduceSub, Int.reduceAdd, Int.reduceToNat, ↓reduceIte, wrap_in]
  refine ⟨by omega, by omega, ?_⟩
  refine Ex_loop (fun n t h => ∃ k : Nat, t 0 = .list 0 4 (xs.map GAsk.cells) ∧ t 3 = .own 0 xs.length ∧ t 4 = .val (.int .i64 k) ∧ h = [⟨64, 4, fillTo (xs.map GAsk.cells) [.val (.int .i64 0), .val (.int .i64 0), .val (.string ⟨#[]⟩), .val (.slice none 0 0)] k⟩] ∧ n = xs.length - k ∧ k ≤ xs.length) xs.length ?_ ?_
  · exact ⟨0, rfl, rfl, rfl, by rw [fillTo_zero]; simp, rfl, Nat.zero_le _⟩
  · rintro J hJ n t h ⟨k, t0, t3, t4, rfl, rfl, hk⟩
    have fl : (fillTo (xs.map GAsk.cells) [.val (.int .i64 0), .val (.int .i64 0), .val (.string ⟨#[]⟩), .val (.slice none 0 0)] k).length = xs.length := by rw [fillTo_length _ _ (by simpa using hk)]; simp
    by_cases hlt : k < xs.length
    · have fg : (fillTo (xs.map GAsk.cells) [.val (.int .i64 0), .val (.int .i64 0), .val (.string ⟨#[]⟩), .val (.slice none 0 0)] k)[k]? = some [.val (.int .i64 0), .val (.int .i64 0), .val (.string ⟨#[]⟩), .val (.slice none 0 0)] := fillTo_get _ _ (by simpa using hlt)
      have fs := fillTo_set' (xs.map GAsk.cells) [.val (.int .i64 0), .val (.int .i64 0), .val (.string ⟨#[]⟩), .val (.slice none 0 0)] (GAsk.cells xs[k]) (k := k) (by rw [List.getElem?_map, List.getElem?_eq_getElem hlt]; rfl)
      simp only [GAsk.cells] at fs
      simp (disch := omega) only [t0, t3, t4, hlt, fl, fg, GAsk.cells, Ex_cond, go_sem, Nat.reduceEqDiff, Nat.reduceAdd, Nat.reduceLeDiff, reduceCtorEq, Int.reduceLT, Int.reduceLE, Int.reduceNeg, Int.reduceSub, Int.reduceAdd, Int.reduceToNat, ↓reduceIte, wrap_in]
      refine PureCall.call (toAsk_ok xs[k] (by have := szList_mem (f := GAsk.sz) (List.getElem_mem hlt); omega) _) ?_
      simp (disch := omega) only [t0, t3, t4, hlt, fl, fg, fs, GAsk.cells, Ex_cond, go_sem, Nat.reduceEqDiff, Nat.reduceAdd, Nat.reduceLeDiff, reduceCtorEq, Int.reduceLT, Int.reduceLE, Int.reduceNeg, Int.reduceSub, Int.reduceAdd, Int.reduceToNat, ↓reduceIte, wrap_in]
      exact ⟨xs.length - (k + 1), by omega, hJ _ _ _ ⟨k + 1, by simp [upd, t0], by simp [upd, t3], by simp [upd], rfl, rfl, by omega⟩⟩
    · simp (disch := omega) only [t0, t3, t4, hlt, fl, Ex_cond, go_sem, Nat.reduceEqDiff, Nat.reduceAdd, Nat.reduceLeDiff, reduceCtorEq, Int.reduceLT, Int.reduceLE, Int.reduceNeg, Int.reduceSub, Int.reduceAdd, Int.reduceToNat, ↓reduceIte, wrap_in]
      have ff : fillTo (xs.map GAsk.cells) [.val (.int .i64 0), .val (.int .i64 0), .val (.string ⟨#[]⟩), .val (.slice none 0 0)] k = xs.map GAsk.cells := fillTo_all _ _ (by simp; omega)
      rw [ff]
      exact resolve_own (r := ⟨64, 4, xs.map GAsk.cells⟩) rfl (by simp) (by intro e he; obtain ⟨x, _, q⟩ := List.mem_map.1 he; subst q; rfl)

theorem eqAskS_ok (xs : List GAsk) (hb : (szList GAsk.sz) xs ≤ 1048576) (h : List Row) : PureCall Tryz.prog 40 [.list 0 4 (xs.map GAsk.cells), .list 0 4 (xs.map GAsk.cells)] h (.val (.bool true)) := by
  have hx := Nat.le_trans (szList_length (f := GAsk.sz) (xs := xs)) hb
  refine pure_fn mixed Tryz.func40 low_laws_eqAskS rfl rfl ?_ h
  simp (disch := omega) only [lf_laws_eqAskS, c_laws_eqAskS, Ex_cond, go_sem, Nat.reduceEqDiff, Nat.reduceAdd, Nat.reduceLeDiff, reduceCtorEq, Int.reduceLT, Int.reduceLE, Int.reduceNeg, Int.reduceSub, Int.reduceAdd, Int.reduceToNat, ↓reduceIte, wrap_in]
  refine Ex_loop (fun n t h => ∃ k : Nat, t 0 = .list 0 4 (xs.map GAsk.cells) ∧ t 1 = .list 0 4 (xs.map GAsk.cells) ∧ t 5 = .val (.int .i64 k) ∧ h = [] ∧ n = xs.length - k ∧ k ≤ xs.length) xs.length ?_ ?_
  · exact ⟨0, rfl, rfl, rfl, rfl, rfl, Nat.zero_le _⟩
  · rintro J hJ n t h ⟨k, t0, t1, t5, rfl, rfl, hk⟩
    by_cases hlt : k < xs.length
    · simp (disch := omega) only [t0, t1, t5, hlt, GAsk.cells, Ex_cond, go_sem, Nat.reduceEqDiff, Nat.reduceAdd, Nat.reduceLeDiff, reduceCtorEq, Int.reduceLT, Int.reduceLE, Int.reduceNeg, Int.reduceSub, Int.reduceAdd, Int.reduceToNat, ↓reduceIte, wrap_in]
      refine PureCall.q (eqAsk_ok xs[k] (by have := szList_mem (f := GAsk.sz) (List.getElem_mem hlt); omega) _) ?_
      simp (disch := omega) only [t0, t1, t5, hlt, GAsk.cells, Ex_cond, go_sem, Nat.reduceEqDiff, Nat.reduceAdd, Nat.reduceLeDiff, reduceCtorEq, Int.reduceLT, Int.reduceLE, Int.reduceNeg, Int.reduceSub, Int.reduceAdd, Int.reduceToNat, ↓reduceIte, wrap_in]
      exact ⟨xs.length - (k + 1), by omega, hJ _ _ _ ⟨k + 1, by simp [upd, t0], by simp [upd, t1], by simp [upd], rfl, rfl, by omega⟩⟩
    · simp (disch := omega) only [t0, t1, t5, hlt, Ex_cond, go_sem, Nat.reduceEqDiff, Nat.reduceAdd, Nat.reduceLeDiff, reduceCtorEq, Int.reduceLT, Int.reduceLE, Int.reduceNeg, Int.reduceSub, Int.reduceAdd, Int.reduceToNat, ↓reduceIte, wrap_in]
      exact resolve_val _ _

theorem szLocks_ok (x : GLocks) (l : Int) (h0 : 0 ≤ l) (h1 : l ≤ 1048576) (hw : GLocks.wf x) (h : List Row) : PureCall Tryz.prog 8 [.agg (GLocks.cells x), .val (.int .i64 l)] h (.val (.int .i64 (szR (GLocks.sz x) l))) := by
  obtain ⟨w_Held, w_Asks, _⟩ := hw
  have hsz : GLocks.sz x = (szList GLock.sz) x.Held + (szList GAsk.sz) x.Asks := rfl
  refine pure_fn mixed Tryz.func8 low_laws_szLocks rfl rfl ?_ h
  simp (disch := omega) only [lf_laws_szLocks, c_laws_szLocks, GLocks.cells, Ex_cond, go_sem, Nat.reduceEqDiff, Nat.reduceAdd, Nat.reduceLeDiff, reduceCtorEq, Int.reduceLT, Int.reduceLE, Int.reduceNeg, Int.reduceSub, Int.reduceAdd, Int.reduceToNat, ↓reduceIte, wrap_in]
  refine PureCall.call (szLockS_ok x.Held (l) (by omega) (by omega) w_Held _) ?_
  by_cases hn_Held : ((szList GLock.sz) x.Held : Int) ≤ l
  case neg =>
    rw [szR_neg (n := (szList GLock.sz) x.Held) (l := l) (by omega)]
    simp (disch := omega) only [Ex_cond, go_sem, Nat.reduceEqDiff, Nat.reduceAdd, Nat.reduceLeDiff, reduceCtorEq, Int.reduceLT, Int.reduceLE, Int.reduceNeg, Int.reduceSub, Int.reduceAdd, Int.reduceToNat, ↓reduceIte, wrap_in]
    rw [szR_neg (by omega)]; exact resolve_val _ _
  rw [szR_pos (n := (szList GLock.sz) x.Held) (l := l) hn_Held]
  simp (disch := omega) only [Ex_cond, go_sem, Nat.reduceEqDiff, Nat.reduceAdd, Nat.reduceLeDiff, reduceCtorEq, Int.reduceLT, Int.reduceLE, Int.reduceNeg, Int.reduceSub, Int.reduceAdd, Int.reduceToNat, ↓reduceIte, wrap_in]
  refine ⟨fun hn => absurd hn (by omega), fun _ => ?_⟩
  refine PureCall.call (szAskS_ok x.Asks (l - (szList GLock.sz) x.Held) (by omega) (by omega) w_Asks _) ?_
  by_cases hn_Asks : ((szList GAsk.sz) x.Asks : Int) ≤ l - (szList GLock.sz) x.Held
  case neg =>
    rw [szR_neg (n := (szList GAsk.sz) x.Asks) (l := l - (szList GLock.sz) x.Held) (by omega)]
    simp (disch := omega) only [Ex_cond, go_sem, Nat.reduceEqDiff, Nat.reduceAdd, Nat.reduceLeDiff, reduceCtorEq, Int.reduceLT, Int.reduceLE, Int.reduceNeg, Int.reduceSub, Int.reduceAdd, Int.reduceToNat, ↓reduceIte, wrap_in]
    rw [szR_neg (by omega)]; exact resolve_val _ _
  rw [szR_pos (n := (szList GAsk.sz) x.Asks) (l := l - (szList GLock.sz) x.Held) hn_Asks]
  simp (disch := omega) only [Ex_cond, go_sem, Nat.reduceEqDiff, Nat.reduceAdd, Nat.reduceLeDiff, reduceCtorEq, Int.reduceLT, Int.reduceLE, Int.reduceNeg, Int.reduceSub, Int.reduceAdd, Int.reduceToNat, ↓reduceIte, wrap_in]
  refine ⟨fun hn => absurd hn (by omega), fun _ => ?_⟩
  rw [szR_pos (by omega), hsz]
  have hfin : l - (((szList GLock.sz) x.Held + (szList GAsk.sz) x.Asks : Nat) : Int) = l - (szList GLock.sz) x.Held - (szList GAsk.sz) x.Asks := by omega
  rw [hfin]; exact resolve_val _ _

theorem toLocks_ok (x : GLocks) (hb : GLocks.sz x ≤ 1048576) (h : List Row) : PureCall Tryz.prog 10 [.agg (GLocks.cells x)] h (.agg (GLocks.cells x)) := by
  have hsz : GLocks.sz x = (szList GLock.sz) x.Held + (szList GAsk.sz) x.Asks := rfl
  refine pure_fn mixed Tryz.func10 low_laws_toLocks rfl rfl ?_ h
  simp (disch := omega) only [lf_laws_toLocks, c_laws_toLocks, GLocks.cells, Ex_cond, go_sem, Nat.reduceEqDiff, Nat.reduceAdd, Nat.reduceLeDiff, reduceCtorEq, Int.reduceLT, Int.reduceLE, Int.reduceNeg, Int.reduceSub, Int.reduceAdd, Int.reduceToNat, ↓reduceIte, post_cell]
  refine PureCall.call (toLockS_ok x.Held (by omega) _) ?_
  simp (disch := omega) only [Ex_cond, go_sem, Nat.reduceEqDiff, Nat.reduceAdd, Nat.reduceLeDiff, reduceCtorEq, Int.reduceLT, Int.reduceLE, Int.reduceNeg, Int.reduceSub, Int.reduceAdd, Int.reduceToNat, ↓reduceIte, post_cell]
  refine PureCall.call (toAskS_ok x.Asks (by omega) _) ?_
  simp (disch := omega) only [Ex_cond, go_sem, Nat.reduceEqDiff, Nat.reduceAdd, Nat.reduceLeDiff, reduceCtorEq, Int.reduceLT, Int.reduceLE, Int.reduceNeg, Int.reduceSub, Int.reduceAdd, Int.reduceToNat, ↓reduceIte, post_cell]
  exact resolve_agg _ _ rfl

theorem eqLocks_ok (x : GLocks) (hb : GLocks.sz x ≤ 1048576) (h : List Row) : PureCall Tryz.prog 13 [.agg (GLocks.cells x), .agg (GLocks.cells x)] h (.val (.bool true)) := by
  have hsz : GLocks.sz x = (szList GLock.sz) x.Held + (szList GAsk.sz) x.Asks := rfl
  refine pure_fn mixed Tryz.func13 low_laws_eqLocks rfl rfl ?_ h
  simp (disch := omega) only [lf_laws_eqLocks, c_laws_eqLocks, GLocks.cells, Ex_cond, go_sem, Nat.reduceEqDiff, Nat.reduceAdd, Nat.reduceLeDiff, reduceCtorEq, Int.reduceLT, Int.reduceLE, Int.reduceNeg, Int.reduceSub, Int.reduceAdd, Int.reduceToNat, ↓reduceIte]
  refine PureCall.call (eqLockS_ok x.Held (by omega) _) ?_
  simp (disch := omega) only [Ex_cond, go_sem, Nat.reduceEqDiff, Nat.reduceAdd, Nat.reduceLeDiff, reduceCtorEq, Int.reduceLT, Int.reduceLE, Int.reduceNeg, Int.reduceSub, Int.reduceAdd, Int.reduceToNat, ↓reduceIte]
  refine PureCall.call (eqAskS_ok x.Asks (by omega) _) ?_
  simp (disch := omega) only [Ex_cond, go_sem, Nat.reduceEqDiff, Nat.reduceAdd, Nat.reduceLeDiff, reduceCtorEq, Int.reduceLT, Int.reduceLE, Int.reduceNeg, Int.reduceSub, Int.reduceAdd, Int.reduceToNat, ↓reduceIte]
  exact resolve_val _ _

theorem eqInt64S_ok (xs : List Int) (hb : (szList (fun _ => 0)) xs ≤ 1048576) (h : List Row) : PureCall Tryz.prog 12 [.list 0 1 (xs.map cInt), .list 0 1 (xs.map cInt)] h (.val (.bool true)) := by
  have hx := Nat.le_trans (szList_length (f := (fun _ => 0)) (xs := xs)) hb
  refine pure_fn mixed Tryz.func12 low_laws_eqInt64S rfl rfl ?_ h
  simp (disch := omega) only [lf_laws_eqInt64S, c_laws_eqInt64S, Ex_cond, go_sem, Nat.reduceEqDiff, Nat.reduceAdd, Nat.reduceLeDiff, reduceCtorEq, Int.reduceLT, Int.reduceLE, Int.reduceNeg, Int.reduceSub, Int.reduceAdd, Int.reduceToNat, ↓reduceIte, wrap_in]
  refine Ex_loop (fun n t h => ∃ k : Nat, t 0 = .list 0 1 (xs.map cInt) ∧ t 1 = .list 0 1 (xs.map cInt) ∧ t 5 = .val (.int .i64 k) ∧ h = [] ∧ n = xs.length - k ∧ k ≤ xs.length) xs.length ?_ ?_
  · exact ⟨0, rfl, rfl, rfl, rfl, rfl, Nat.zero_le _⟩
  · rintro J hJ n t h ⟨k, t0, t1, t5, rfl, rfl, hk⟩
    by_cases hlt : k < xs.length
    · simp (disch := omega) only [t0, t1, t5, hlt, Ex_cond, go_sem, Nat.reduceEqDiff, Nat.reduceAdd, Nat.reduceLeDiff, reduceCtorEq, Int.reduceLT, Int.reduceLE, Int.reduceNeg, Int.reduceSub, Int.reduceAdd, Int.reduceToNat, ↓reduceIte, wrap_in]
      exact ⟨xs.length - (k + 1), by omega, hJ _ _ _ ⟨k + 1, by simp [upd, t0], by simp [upd, t1], by simp [upd], rfl, rfl, by omega⟩⟩
    · simp (disch := omega) only [t0, t1, t5, hlt, Ex_cond, go_sem, Nat.reduceEqDiff, Nat.reduceAdd, Nat.reduceLeDiff, reduceCtorEq, Int.reduceLT, Int.reduceLE, Int.reduceNeg, Int.reduceSub, Int.reduceAdd, Int.reduceToNat, ↓reduceIte, wrap_in]
      exact resolve_val _ _

end Go.Proofs.YtodgohgdnmifaaaGreatDoor
