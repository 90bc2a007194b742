/-
  Contracts of the laws own functions that count, copy and compare data. Conditions: as each theorem says, sizes up to 1048576.
-/
import Derived.Test.YtpahjgcpecmolaaDat
namespace Go.Proofs.Ytpahjgcpecmolaa
open Go.AW
set_option linter.unusedVariables false
set_option linter.unusedSimpArgs false

theorem mixed : Try.prog.follows .mixedOrders = true := by kernel_rfl

/-- laws.szStringS -/
def c_laws_szStringS : LC :=
  .seq (.ops [⟨some 4, none, .mov (.const (.int .i64 0))⟩])
  (.seq (.ops [⟨some 6, none, .mov (.tmp 1)⟩,
    ⟨some 7, none, .mov (.tmp 0)⟩,
    ⟨some 8, none, .lenSl (.tmp 7)⟩,
    ⟨some 9, none, .bin .sub false (.tmp 6) (.tmp 8)⟩,
    ⟨some 1, none, .mov (.tmp 9)⟩])
  (.seq (.seq (.ops [⟨some 10, none, .mov (.tmp 1)⟩,
     ⟨some 11, none, .bin .lss false (.tmp 10) (.const (.int .i64 0))⟩])
   (.cond (.tmp 11)
    (.seq (.ops [⟨some 4, none, .mov (.const (.int .i64 (-1)))⟩])
     (.ret))
    (.skip)))
  (.seq (.seq (.ops [⟨some 5, none, .mov (.const (.int .i64 0))⟩])
   (.block 0 (.loop (.seq (.seq (.ops [⟨some 12, none, .mov (.tmp 5)⟩,
        ⟨some 13, none, .mov (.tmp 0)⟩,
        ⟨some 14, none, .lenSl (.tmp 13)⟩,
        ⟨some 15, none, .bin .lss false (.tmp 12) (.tmp 14)⟩])
      (.cond (.tmp 15)
       (.skip)
       (.exit 0)))
     (.seq (.block 1 (.seq (.ops [⟨some 18, none, .mov (.tmp 1)⟩,
         ⟨some 19, none, .mov (.tmp 0)⟩,
         ⟨some 20, none, .mov (.tmp 5)⟩,
         ⟨some 21, none, .indexAddr 1 (.tmp 19) (.tmp 20)⟩,
         ⟨some 22, none, .load none (.tmp 21)⟩,
         ⟨some 23, none, .lenStr (.tmp 22)⟩,
         ⟨some 24, none, .bin .sub false (.tmp 18) (.tmp 23)⟩,
         ⟨some 1, none, .mov (.tmp 24)⟩])
       (.seq (.ops [⟨some 25, none, .mov (.tmp 1)⟩,
         ⟨some 26, none, .bin .lss false (.tmp 25) (.const (.int .i64 0))⟩])
       (.cond (.tmp 26)
        (.seq (.ops [⟨some 4, none, .mov (.const (.int .i64 (-1)))⟩])
         (.ret))
        (.skip)))))
     (.ops [⟨some 16, none, .mov (.tmp 5)⟩,
      ⟨some 17, none, .bin .add false (.tmp 16) (.const (.int .i64 1))⟩,
      ⟨some 5, none, .mov (.tmp 17)⟩]))))))
  (.seq (.ops [⟨some 27, none, .mov (.tmp 1)⟩,
    ⟨some 4, none, .mov (.tmp 27)⟩])
  (.ret)))))
def lf_laws_szStringS : LF := { np := 2, N := 28, body := c_laws_szStringS, res := [.tmp 4] }
theorem low_laws_szStringS : LowF Try.prog Try.f27 lf_laws_szStringS := LowF.mk' (by kernel_rfl) (by kernel_rfl) (by kernel_rfl) (by decide)

/-- laws.toStringS -/
def c_laws_toStringS : LC :=
  .seq (.ops [⟨some 2, none, .mov (.const (.slice none 0 0))⟩])
  (.seq (.ops [⟨some 5, none, .mov (.tmp 0)⟩,
    ⟨some 6, none, .lenSl (.tmp 5)⟩,
    ⟨some 7, none, .mkSlice 9 1 16 (.string ⟨#[]⟩) (.tmp 6) (.tmp 6)⟩,
    ⟨some 3, none, .mov (.tmp 7)⟩])
  (.seq (.seq (.ops [⟨some 4, none, .mov (.const (.int .i64 0))⟩])
   (.block 0 (.loop (.seq (.seq (.ops [⟨some 8, none, .mov (.tmp 4)⟩,
        ⟨some 9, none, .mov (.tmp 0)⟩,
        ⟨some 10, none, .lenSl (.tmp 9)⟩,
        ⟨some 11, none, .bin .lss false (.tmp 8) (.tmp 10)⟩])
      (.cond (.tmp 11)
       (.skip)
       (.exit 0)))
     (.seq (.block 1 (.ops [⟨some 14, none, .mov (.tmp 3)⟩,
        ⟨some 15, none, .mov (.tmp 4)⟩,
        ⟨some 16, none, .mov (.tmp 0)⟩,
        ⟨some 17, none, .mov (.tmp 4)⟩,
        ⟨some 18, none, .indexAddr 1 (.tmp 16) (.tmp 17)⟩,
        ⟨some 19, none, .load none (.tmp 18)⟩,
        ⟨some 20, none, .indexAddr 1 (.tmp 14) (.tmp 15)⟩,
        ⟨none, none, .store 1 (.tmp 20) (.tmp 19)⟩]))
     (.ops [⟨some 12, none, .mov (.tmp 4)⟩,
      ⟨some 13, none, .bin .add false (.tmp 12) (.const (.int .i64 1))⟩,
      ⟨some 4, none, .mov (.tmp 13)⟩]))))))
  (.seq (.ops [⟨some 21, none, .mov (.tmp 3)⟩,
    ⟨some 2, none, .mov (.tmp 21)⟩])
  (.ret))))
def lf_laws_toStringS : LF := { np := 1, N := 22, body := c_laws_toStringS, res := [.tmp 2] }
theorem low_laws_toStringS : LowF Try.prog Try.f31 lf_laws_toStringS := LowF.mk' (by kernel_rfl) (by kernel_rfl) (by kernel_rfl) (by decide)

/-- laws.eqStringS -/
def c_laws_eqStringS : LC :=
  .seq (.ops [⟨some 4, none, .mov (.const (.bool false))⟩])
  (.seq (.seq (.ops [⟨some 6, none, .mov (.tmp 0)⟩,
     ⟨some 7, none, .lenSl (.tmp 6)⟩,
     ⟨some 8, none, .mov (.tmp 1)⟩,
     ⟨some 9, none, .lenSl (.tmp 8)⟩,
     ⟨some 10, none, .bin .neq false (.tmp 7) (.tmp 9)⟩])
   (.cond (.tmp 10)
    (.seq (.ops [⟨some 4, none, .mov (.const (.bool false))⟩])
     (.ret))
    (.skip)))
  (.seq (.seq (.ops [⟨some 5, none, .mov (.const (.int .i64 0))⟩])
   (.block 0 (.loop (.seq (.seq (.ops [⟨some 11, none, .mov (.tmp 5)⟩,
        ⟨some 12, none, .mov (.tmp 0)⟩,
        ⟨some 13, none, .lenSl (.tmp 12)⟩,
        ⟨some 14, none, .bin .lss false (.tmp 11) (.tmp 13)⟩])
      (.cond (.tmp 14)
       (.skip)
       (.exit 0)))
     (.seq (.block 1 (.seq (.dops [⟨some 17, none, .mov (.tmp 0)⟩,
         ⟨some 18, none, .mov (.tmp 5)⟩,
         ⟨some 19, none, .indexAddr 1 (.tmp 17) (.tmp 18)⟩,
         ⟨some 20, none, .load none (.tmp 19)⟩,
         ⟨some 21, none, .mov (.tmp 1)⟩,
         ⟨some 22, none, .mov (.tmp 5)⟩,
         ⟨some 23, none, .indexAddr 1 (.tmp 21) (.tmp 22)⟩,
         ⟨some 24, none, .load none (.tmp 23)⟩,
         ⟨some 25, none, .bin .neq false (.tmp 20) (.tmp 24)⟩])
       (.cond (.tmp 25)
        (.seq (.ops [⟨some 4, none, .mov (.const (.bool false))⟩])
         (.ret))
        (.skip))))
     (.ops [⟨some 15, none, .mov (.tmp 5)⟩,
      ⟨some 16, none, .bin .add false (.tmp 15) (.const (.int .i64 1))⟩,
      ⟨some 5, none, .mov (.tmp 16)⟩]))))))
  (.seq (.ops [⟨some 4, none, .mov (.const (.bool true))⟩])
  (.ret))))
def lf_laws_eqStringS : LF := { np := 2, N := 26, body := c_laws_eqStringS, res := [.tmp 4] }
theorem low_laws_eqStringS : LowF Try.prog Try.f11 lf_laws_eqStringS := LowF.mk' (by kernel_rfl) (by kernel_rfl) (by kernel_rfl) (by decide)

/-- laws.szTrigger -/
def c_laws_szTrigger : LC :=
  .seq (.ops [⟨some 2, none, .box 24 (.tmp 0)⟩,
    ⟨some 4, none, .mov (.const (.int .i64 0))⟩])
  (.seq (.ops [⟨some 5, none, .mov (.tmp 1)⟩,
    ⟨some 6, none, .fieldAddr 1 (.tmp 2)⟩,
    ⟨some 7, none, .load none (.tmp 6)⟩,
    ⟨some 8, none, .lenStr (.tmp 7)⟩,
    ⟨some 9, none, .bin .sub false (.tmp 5) (.tmp 8)⟩,
    ⟨some 1, none, .mov (.tmp 9)⟩])
  (.seq (.seq (.ops [⟨some 10, none, .mov (.tmp 1)⟩,
     ⟨some 11, none, .bin .lss false (.tmp 10) (.const (.int .i64 0))⟩])
   (.cond (.tmp 11)
    (.seq (.ops [⟨some 4, none, .mov (.const (.int .i64 (-1)))⟩])
     (.ret))
    (.skip)))
  (.seq (.ops [⟨some 12, none, .fieldAddr 2 (.tmp 2)⟩,
    ⟨some 13, none, .load none (.tmp 12)⟩,
    ⟨some 14, none, .mov (.tmp 1)⟩,
    ⟨some 15, none, .call 27 [.tmp 13, .tmp 14]⟩,
    ⟨some 1, none, .mov (.tmp 15)⟩])
  (.seq (.seq (.ops [⟨some 16, none, .mov (.tmp 1)⟩,
     ⟨some 17, none, .bin .lss false (.tmp 16) (.const (.int .i64 0))⟩])
   (.cond (.tmp 17)
    (.seq (.ops [⟨some 4, none, .mov (.const (.int .i64 (-1)))⟩])
     (.ret))
    (.skip)))
  (.seq (.ops [⟨some 18, none, .mov (.tmp 1)⟩,
    ⟨some 19, none, .fieldAddr 5 (.tmp 2)⟩,
    ⟨some 20, none, .load none (.tmp 19)⟩,
    ⟨some 21, none, .lenStr (.tmp 20)⟩,
    ⟨some 22, none, .bin .sub false (.tmp 18) (.tmp 21)⟩,
    ⟨some 1, none, .mov (.tmp 22)⟩])
  (.seq (.seq (.ops [⟨some 23, none, .mov (.tmp 1)⟩,
     ⟨some 24, none, .bin .lss false (.tmp 23) (.const (.int .i64 0))⟩])
   (.cond (.tmp 24)
    (.seq (.ops [⟨some 4, none, .mov (.const (.int .i64 (-1)))⟩])
     (.ret))
    (.skip)))
  (.seq (.ops [⟨some 25, none, .mov (.tmp 1)⟩,
    ⟨some 26, none, .fieldAddr 6 (.tmp 2)⟩,
    ⟨some 27, none, .load none (.tmp 26)⟩,
    ⟨some 28, none, .lenStr (.tmp 27)⟩,
    ⟨some 29, none, .bin .sub false (.tmp 25) (.tmp 28)⟩,
    ⟨some 1, none, .mov (.tmp 29)⟩])
  (.seq (.seq (.ops [⟨some 30, none, .mov (.tmp 1)⟩,
     ⟨some 31, none, .bin .lss false (.tmp 30) (.const (.int .i64 0))⟩])
   (.cond (.tmp 31)
    (.seq (.ops [⟨some 4, none, .mov (.const (.int .i64 (-1)))⟩])
     (.ret))
    (.skip)))
  (.seq (.ops [⟨some 32, none, .mov (.tmp 1)⟩,
    ⟨some 4, none, .mov (.tmp 32)⟩])
  (.ret))))))))))
def lf_laws_szTrigger : LF := { np := 2, N := 33, body := c_laws_szTrigger, res := [.tmp 4] }
theorem low_laws_szTrigger : LowF Try.prog Try.f5 lf_laws_szTrigger := LowF.mk' (by kernel_rfl) (by kernel_rfl) (by kernel_rfl) (by decide)

/-- laws.toTrigger -/
def c_laws_toTrigger : LC :=
  .seq (.ops [⟨some 1, none, .box 24 (.tmp 0)⟩,
    ⟨some 2, none, .alloc 31 (.agg #[.int .i64 0, .string ⟨#[]⟩, .slice none 0 0, .bool false, .bool false, .string ⟨#[]⟩, .string ⟨#[]⟩])⟩])
  (.seq (.ops [⟨some 3, none, .alloc 31 (.agg #[.int .i64 0, .string ⟨#[]⟩, .slice none 0 0, .bool false, .bool false, .string ⟨#[]⟩, .string ⟨#[]⟩])⟩])
  (.seq (.ops [⟨some 4, none, .fieldAddr 0 (.tmp 1)⟩,
    ⟨some 5, none, .load none (.tmp 4)⟩,
    ⟨some 6, none, .fieldAddr 0 (.tmp 3)⟩,
    ⟨none, none, .store 1 (.tmp 6) (.tmp 5)⟩])
  (.seq (.ops [⟨some 7, none, .fieldAddr 1 (.tmp 1)⟩,
    ⟨some 8, none, .load none (.tmp 7)⟩,
    ⟨some 9, none, .fieldAddr 1 (.tmp 3)⟩,
    ⟨none, none, .store 1 (.tmp 9) (.tmp 8)⟩])
  (.seq (.ops [⟨some 10, none, .fieldAddr 2 (.tmp 1)⟩,
    ⟨some 11, none, .load none (.tmp 10)⟩,
    ⟨some 12, none, .call 31 [.tmp 11]⟩,
    ⟨some 13, none, .fieldAddr 2 (.tmp 3)⟩,
    ⟨none, none, .store 1 (.tmp 13) (.tmp 12)⟩])
  (.seq (.ops [⟨some 14, none, .fieldAddr 3 (.tmp 1)⟩,
    ⟨some 15, none, .load none (.tmp 14)⟩,
    ⟨some 16, none, .fieldAddr 3 (.tmp 3)⟩,
    ⟨none, none, .store 1 (.tmp 16) (.tmp 15)⟩])
  (.seq (.ops [⟨some 17, none, .fieldAddr 4 (.tmp 1)⟩,
    ⟨some 18, none, .load none (.tmp 17)⟩,
    ⟨some 19, none, .fieldAddr 4 (.tmp 3)⟩,
    ⟨none, none, .store 1 (.tmp 19) (.tmp 18)⟩])
  (.seq (.ops [⟨some 20, none, .fieldAddr 5 (.tmp 1)⟩,
    ⟨some 21, none, .load none (.tmp 20)⟩,
    ⟨some 22, none, .fieldAddr 5 (.tmp 3)⟩,
    ⟨none, none, .store 1 (.tmp 22) (.tmp 21)⟩])
  (.seq (.ops [⟨some 23, none, .fieldAddr 6 (.tmp 1)⟩,
    ⟨some 24, none, .load none (.tmp 23)⟩,
    ⟨some 25, none, .fieldAddr 6 (.tmp 3)⟩,
    ⟨none, none, .store 1 (.tmp 25) (.tmp 24)⟩])
  (.seq (.ops [⟨some 26, none, .load (some 7) (.tmp 3)⟩,
    ⟨none, none, .store 7 (.tmp 2) (.tmp 26)⟩])
  (.ret))))))))))
def lf_laws_toTrigger : LF := { np := 1, N := 27, body := c_laws_toTrigger, res := [.cell 2 (some 7)] }
theorem low_laws_toTrigger : LowF Try.prog Try.f8 lf_laws_toTrigger := LowF.mk' (by kernel_rfl) (by kernel_rfl) (by kernel_rfl) (by decide)

/-- laws.eqTrigger -/
def c_laws_eqTrigger : LC :=
  .seq (.ops [⟨some 2, none, .box 31 (.tmp 0)⟩,
    ⟨some 3, none, .box 31 (.tmp 1)⟩,
    ⟨some 4, none, .mov (.const (.bool false))⟩])
  (.seq (.seq (.ops [⟨some 5, none, .fieldAddr 0 (.tmp 2)⟩,
     ⟨some 6, none, .load none (.tmp 5)⟩,
     ⟨some 7, none, .fieldAddr 0 (.tmp 3)⟩,
     ⟨some 8, none, .load none (.tmp 7)⟩,
     ⟨some 9, none, .bin .neq false (.tmp 6) (.tmp 8)⟩])
   (.cond (.tmp 9)
    (.seq (.ops [⟨some 4, none, .mov (.const (.bool false))⟩])
     (.ret))
    (.skip)))
  (.seq (.seq (.ops [⟨some 10, none, .fieldAddr 1 (.tmp 2)⟩,
     ⟨some 11, none, .load none (.tmp 10)⟩,
     ⟨some 12, none, .fieldAddr 1 (.tmp 3)⟩,
     ⟨some 13, none, .load none (.tmp 12)⟩,
     ⟨some 14, none, .bin .neq false (.tmp 11) (.tmp 13)⟩])
   (.cond (.tmp 14)
    (.seq (.ops [⟨some 4, none, .mov (.const (.bool false))⟩])
     (.ret))
    (.skip)))
  (.seq (.seq (.ops [⟨some 15, none, .fieldAddr 2 (.tmp 2)⟩,
     ⟨some 16, none, .load none (.tmp 15)⟩,
     ⟨some 17, none, .fieldAddr 2 (.tmp 3)⟩,
     ⟨some 18, none, .load none (.tmp 17)⟩,
     ⟨some 19, none, .call 11 [.tmp 16, .tmp 18]⟩,
     ⟨some 20, none, .un .not (.tmp 19)⟩])
   (.cond (.tmp 20)
    (.seq (.ops [⟨some 4, none, .mov (.const (.bool false))⟩])
     (.ret))
    (.skip)))
  (.seq (.seq (.ops [⟨some 21, none, .fieldAddr 3 (.tmp 2)⟩,
     ⟨some 22, none, .load none (.tmp 21)⟩,
     ⟨some 23, none, .fieldAddr 3 (.tmp 3)⟩,
     ⟨some 24, none, .load none (.tmp 23)⟩,
     ⟨some 25, none, .bin .neq true (.tmp 22) (.tmp 24)⟩])
   (.cond (.tmp 25)
    (.seq (.ops [⟨some 4, none, .mov (.const (.bool false))⟩])
     (.ret))
    (.skip)))
  (.seq (.seq (.ops [⟨some 26, none, .fieldAddr 4 (.tmp 2)⟩,
     ⟨some 27, none, .load none (.tmp 26)⟩,
     ⟨some 28, none, .fieldAddr 4 (.tmp 3)⟩,
     ⟨some 29, none, .load none (.tmp 28)⟩,
     ⟨some 30, none, .bin .neq true (.tmp 27) (.tmp 29)⟩])
   (.cond (.tmp 30)
    (.seq (.ops [⟨some 4, none, .mov (.const (.bool false))⟩])
     (.ret))
    (.skip)))
  (.seq (.seq (.ops [⟨some 31, none, .fieldAddr 5 (.tmp 2)⟩,
     ⟨some 32, none, .load none (.tmp 31)⟩,
     ⟨some 33, none, .fieldAddr 5 (.tmp 3)⟩,
     ⟨some 34, none, .load none (.tmp 33)⟩,
     ⟨some 35, none, .bin .neq false (.tmp 32) (.tmp 34)⟩])
   (.cond (.tmp 35)
    (.seq (.ops [⟨some 4, none, .mov (.const (.bool false))⟩])
     (.ret))
    (.skip)))
  (.seq (.seq (.ops [⟨some 36, none, .fieldAddr 6 (.tmp 2)⟩,
     ⟨some 37, none, .load none (.tmp 36)⟩,
     ⟨some 38, none, .fieldAddr 6 (.tmp 3)⟩,
     ⟨some 39, none, .load none (.tmp 38)⟩,
     ⟨some 40, none, .bin .neq false (.tmp 37) (.tmp 39)⟩])
   (.cond (.tmp 40)
    (.seq (.ops [⟨some 4, none, .mov (.const (.bool false))⟩])
     (.ret))
    (.skip)))
  (.seq (.ops [⟨some 4, none, .mov (.const (.bool true))⟩])
  (.ret)))))))))
def lf_laws_eqTrigger : LF := { np := 2, N := 41, body := c_laws_eqTrigger, res := [.tmp 4] }
theorem low_laws_eqTrigger : LowF Try.prog Try.f12 lf_laws_eqTrigger := LowF.mk' (by kernel_rfl) (by kernel_rfl) (by kernel_rfl) (by decide)

/-- laws.szChange -/
def c_laws_szChange : LC :=
  .seq (.ops [⟨some 2, none, .box 26 (.tmp 0)⟩,
    ⟨some 4, none, .mov (.const (.int .i64 0))⟩])
  (.seq (.ops [⟨some 5, none, .mov (.tmp 1)⟩,
    ⟨some 6, none, .fieldAddr 1 (.tmp 2)⟩,
    ⟨some 7, none, .load none (.tmp 6)⟩,
    ⟨some 8, none, .lenStr (.tmp 7)⟩,
    ⟨some 9, none, .bin .sub false (.tmp 5) (.tmp 8)⟩,
    ⟨some 1, none, .mov (.tmp 9)⟩])
  (.seq (.seq (.ops [⟨some 10, none, .mov (.tmp 1)⟩,
     ⟨some 11, none, .bin .lss false (.tmp 10) (.const (.int .i64 0))⟩])
   (.cond (.tmp 11)
    (.seq (.ops [⟨some 4, none, .mov (.const (.int .i64 (-1)))⟩])
     (.ret))
    (.skip)))
  (.seq (.ops [⟨some 12, none, .fieldAddr 2 (.tmp 2)⟩,
    ⟨some 13, none, .load none (.tmp 12)⟩,
    ⟨some 14, none, .mov (.tmp 1)⟩,
    ⟨some 15, none, .call 27 [.tmp 13, .tmp 14]⟩,
    ⟨some 1, none, .mov (.tmp 15)⟩])
  (.seq (.seq (.ops [⟨some 16, none, .mov (.tmp 1)⟩,
     ⟨some 17, none, .bin .lss false (.tmp 16) (.const (.int .i64 0))⟩])
   (.cond (.tmp 17)
    (.seq (.ops [⟨some 4, none, .mov (.const (.int .i64 (-1)))⟩])
     (.ret))
    (.skip)))
  (.seq (.ops [⟨some 18, none, .mov (.tmp 1)⟩,
    ⟨some 19, none, .fieldAddr 3 (.tmp 2)⟩,
    ⟨some 20, none, .load none (.tmp 19)⟩,
    ⟨some 21, none, .lenStr (.tmp 20)⟩,
    ⟨some 22, none, .bin .sub false (.tmp 18) (.tmp 21)⟩,
    ⟨some 1, none, .mov (.tmp 22)⟩])
  (.seq (.seq (.ops [⟨some 23, none, .mov (.tmp 1)⟩,
     ⟨some 24, none, .bin .lss false (.tmp 23) (.const (.int .i64 0))⟩])
   (.cond (.tmp 24)
    (.seq (.ops [⟨some 4, none, .mov (.const (.int .i64 (-1)))⟩])
     (.ret))
    (.skip)))
  (.seq (.ops [⟨some 25, none, .mov (.tmp 1)⟩,
    ⟨some 4, none, .mov (.tmp 25)⟩])
  (.ret))))))))
def lf_laws_szChange : LF := { np := 2, N := 26, body := c_laws_szChange, res := [.tmp 4] }
theorem low_laws_szChange : LowF Try.prog Try.f6 lf_laws_szChange := LowF.mk' (by kernel_rfl) (by kernel_rfl) (by kernel_rfl) (by decide)

/-- laws.toChange -/
def c_laws_toChange : LC :=
  .seq (.ops [⟨some 1, none, .box 26 (.tmp 0)⟩,
    ⟨some 2, none, .alloc 33 (.agg #[.int .i64 0, .string ⟨#[]⟩, .slice none 0 0, .string ⟨#[]⟩])⟩])
  (.seq (.ops [⟨some 3, none, .alloc 33 (.agg #[.int .i64 0, .string ⟨#[]⟩, .slice none 0 0, .string ⟨#[]⟩])⟩])
  (.seq (.ops [⟨some 4, none, .fieldAddr 0 (.tmp 1)⟩,
    ⟨some 5, none, .load none (.tmp 4)⟩,
    ⟨some 6, none, .fieldAddr 0 (.tmp 3)⟩,
    ⟨none, none, .store 1 (.tmp 6) (.tmp 5)⟩])
  (.seq (.ops [⟨some 7, none, .fieldAddr 1 (.tmp 1)⟩,
    ⟨some 8, none, .load none (.tmp 7)⟩,
    ⟨some 9, none, .fieldAddr 1 (.tmp 3)⟩,
    ⟨none, none, .store 1 (.tmp 9) (.tmp 8)⟩])
  (.seq (.ops [⟨some 10, none, .fieldAddr 2 (.tmp 1)⟩,
    ⟨some 11, none, .load none (.tmp 10)⟩,
    ⟨some 12, none, .call 31 [.tmp 11]⟩,
    ⟨some 13, none, .fieldAddr 2 (.tmp 3)⟩,
    ⟨none, none, .store 1 (.tmp 13) (.tmp 12)⟩])
  (.seq (.ops [⟨some 14, none, .fieldAddr 3 (.tmp 1)⟩,
    ⟨some 15, none, .load none (.tmp 14)⟩,
    ⟨some 16, none, .fieldAddr 3 (.tmp 3)⟩,
    ⟨none, none, .store 1 (.tmp 16) (.tmp 15)⟩])
  (.seq (.ops [⟨some 17, none, .load (some 4) (.tmp 3)⟩,
    ⟨none, none, .store 4 (.tmp 2) (.tmp 17)⟩])
  (.ret)))))))
def lf_laws_toChange : LF := { np := 1, N := 18, body := c_laws_toChange, res := [.cell 2 (some 4)] }
theorem low_laws_toChange : LowF Try.prog Try.f9 lf_laws_toChange := LowF.mk' (by kernel_rfl) (by kernel_rfl) (by kernel_rfl) (by decide)

/-- laws.eqChange -/
def c_laws_eqChange : LC :=
  .seq (.ops [⟨some 2, none, .box 33 (.tmp 0)⟩,
    ⟨some 3, none, .box 33 (.tmp 1)⟩,
    ⟨some 4, none, .mov (.const (.bool false))⟩])
  (.seq (.seq (.ops [⟨some 5, none, .fieldAddr 0 (.tmp 2)⟩,
     ⟨some 6, none, .load none (.tmp 5)⟩,
     ⟨some 7, none, .fieldAddr 0 (.tmp 3)⟩,
     ⟨some 8, none, .load none (.tmp 7)⟩,
     ⟨some 9, none, .bin .neq false (.tmp 6) (.tmp 8)⟩])
   (.cond (.tmp 9)
    (.seq (.ops [⟨some 4, none, .mov (.const (.bool false))⟩])
     (.ret))
    (.skip)))
  (.seq (.seq (.ops [⟨some 10, none, .fieldAddr 1 (.tmp 2)⟩,
     ⟨some 11, none, .load none (.tmp 10)⟩,
     ⟨some 12, none, .fieldAddr 1 (.tmp 3)⟩,
     ⟨some 13, none, .load none (.tmp 12)⟩,
     ⟨some 14, none, .bin .neq false (.tmp 11) (.tmp 13)⟩])
   (.cond (.tmp 14)
    (.seq (.ops [⟨some 4, none, .mov (.const (.bool false))⟩])
     (.ret))
    (.skip)))
  (.seq (.seq (.ops [⟨some 15, none, .fieldAddr 2 (.tmp 2)⟩,
     ⟨some 16, none, .load none (.tmp 15)⟩,
     ⟨some 17, none, .fieldAddr 2 (.tmp 3)⟩,
     ⟨some 18, none, .load none (.tmp 17)⟩,
     ⟨some 19, none, .call 11 [.tmp 16, .tmp 18]⟩,
     ⟨some 20, none, .un .not (.tmp 19)⟩])
   (.cond (.tmp 20)
    (.seq (.ops [⟨some 4, none, .mov (.const (.bool false))⟩])
     (.ret))
    (.skip)))
  (.seq (.seq (.ops [⟨some 21, none, .fieldAddr 3 (.tmp 2)⟩,
     ⟨some 22, none, .load none (.tmp 21)⟩,
     ⟨some 23, none, .fieldAddr 3 (.tmp 3)⟩,
     ⟨some 24, none, .load none (.tmp 23)⟩,
     ⟨some 25, none, .bin .neq false (.tmp 22) (.tmp 24)⟩])
   (.cond (.tmp 25)
    (.seq (.ops [⟨some 4, none, .mov (.const (.bool false))⟩])
     (.ret))
    (.skip)))
  (.seq (.ops [⟨some 4, none, .mov (.const (.bool true))⟩])
  (.ret))))))
def lf_laws_eqChange : LF := { np := 2, N := 26, body := c_laws_eqChange, res := [.tmp 4] }
theorem low_laws_eqChange : LowF Try.prog Try.f13 lf_laws_eqChange := LowF.mk' (by kernel_rfl) (by kernel_rfl) (by kernel_rfl) (by decide)

/-- laws.szTriggerS -/
def c_laws_szTriggerS : LC :=
  .seq (.ops [⟨some 4, none, .mov (.const (.int .i64 0))⟩])
  (.seq (.ops [⟨some 6, none, .mov (.tmp 1)⟩,
    ⟨some 7, none, .mov (.tmp 0)⟩,
    ⟨some 8, none, .lenSl (.tmp 7)⟩,
    ⟨some 9, none, .bin .sub false (.tmp 6) (.tmp 8)⟩,
    ⟨some 1, none, .mov (.tmp 9)⟩])
  (.seq (.seq (.ops [⟨some 10, none, .mov (.tmp 1)⟩,
     ⟨some 11, none, .bin .lss false (.tmp 10) (.const (.int .i64 0))⟩])
   (.cond (.tmp 11)
    (.seq (.ops [⟨some 4, none, .mov (.const (.int .i64 (-1)))⟩])
     (.ret))
    (.skip)))
  (.seq (.seq (.ops [⟨some 5, none, .mov (.const (.int .i64 0))⟩])
   (.block 0 (.loop (.seq (.seq (.ops [⟨some 12, none, .mov (.tmp 5)⟩,
        ⟨some 13, none, .mov (.tmp 0)⟩,
        ⟨some 14, none, .lenSl (.tmp 13)⟩,
        ⟨some 15, none, .bin .lss false (.tmp 12) (.tmp 14)⟩])
      (.cond (.tmp 15)
       (.skip)
       (.exit 0)))
     (.seq (.block 1 (.seq (.ops [⟨some 18, none, .mov (.tmp 0)⟩,
         ⟨some 19, none, .mov (.tmp 5)⟩,
         ⟨some 20, none, .indexAddr 7 (.tmp 18) (.tmp 19)⟩,
         ⟨some 21, none, .load (some 7) (.tmp 20)⟩,
         ⟨some 22, none, .mov (.tmp 1)⟩,
         ⟨some 23, none, .call 5 [.tmp 21, .tmp 22]⟩,
         ⟨some 1, none, .mov (.tmp 23)⟩])
       (.seq (.ops [⟨some 24, none, .mov (.tmp 1)⟩,
         ⟨some 25, none, .bin .lss false (.tmp 24) (.const (.int .i64 0))⟩])
       (.cond (.tmp 25)
        (.seq (.ops [⟨some 4, none, .mov (.const (.int .i64 (-1)))⟩])
         (.ret))
        (.skip)))))
     (.ops [⟨some 16, none, .mov (.tmp 5)⟩,
      ⟨some 17, none, .bin .add false (.tmp 16) (.const (.int .i64 1))⟩,
      ⟨some 5, none, .mov (.tmp 17)⟩]))))))
  (.seq (.ops [⟨some 26, none, .mov (.tmp 1)⟩,
    ⟨some 4, none, .mov (.tmp 26)⟩])
  (.ret)))))
def lf_laws_szTriggerS : LF := { np := 2, N := 27, body := c_laws_szTriggerS, res := [.tmp 4] }
theorem low_laws_szTriggerS : LowF Try.prog Try.f18 lf_laws_szTriggerS := LowF.mk' (by kernel_rfl) (by kernel_rfl) (by kernel_rfl) (by decide)

/-- laws.toTriggerS -/
def c_laws_toTriggerS : LC :=
  .seq (.ops [⟨some 2, none, .mov (.const (.slice none 0 0))⟩])
  (.seq (.ops [⟨some 5, none, .mov (.tmp 0)⟩,
    ⟨some 6, none, .lenSl (.tmp 5)⟩,
    ⟨some 7, none, .mkSlice 31 7 88 (.agg #[.int .i64 0, .string ⟨#[]⟩, .slice none 0 0, .bool false, .bool false, .string ⟨#[]⟩, .string ⟨#[]⟩]) (.tmp 6) (.tmp 6)⟩,
    ⟨some 3, none, .mov (.tmp 7)⟩])
  (.seq (.seq (.ops [⟨some 4, none, .mov (.const (.int .i64 0))⟩])
   (.block 0 (.loop (.seq (.seq (.ops [⟨some 8, none, .mov (.tmp 4)⟩,
        ⟨some 9, none, .mov (.tmp 0)⟩,
        ⟨some 10, none, .lenSl (.tmp 9)⟩,
        ⟨some 11, none, .bin .lss false (.tmp 8) (.tmp 10)⟩])
      (.cond (.tmp 11)
       (.skip)
       (.exit 0)))
     (.seq (.block 1 (.ops [⟨some 14, none, .mov (.tmp 3)⟩,
        ⟨some 15, none, .mov (.tmp 4)⟩,
        ⟨some 16, none, .mov (.tmp 0)⟩,
        ⟨some 17, none, .mov (.tmp 4)⟩,
        ⟨some 18, none, .indexAddr 7 (.tmp 16) (.tmp 17)⟩,
        ⟨some 19, none, .load (some 7) (.tmp 18)⟩,
        ⟨some 20, none, .call 8 [.tmp 19]⟩,
        ⟨some 21, none, .indexAddr 7 (.tmp 14) (.tmp 15)⟩,
        ⟨none, none, .store 7 (.tmp 21) (.tmp 20)⟩]))
     (.ops [⟨some 12, none, .mov (.tmp 4)⟩,
      ⟨some 13, none, .bin .add false (.tmp 12) (.const (.int .i64 1))⟩,
      ⟨some 4, none, .mov (.tmp 13)⟩]))))))
  (.seq (.ops [⟨some 22, none, .mov (.tmp 3)⟩,
    ⟨some 2, none, .mov (.tmp 22)⟩])
  (.ret))))
def lf_laws_toTriggerS : LF := { np := 1, N := 23, body := c_laws_toTriggerS, res := [.tmp 2] }
theorem low_laws_toTriggerS : LowF Try.prog Try.f20 lf_laws_toTriggerS := LowF.mk' (by kernel_rfl) (by kernel_rfl) (by kernel_rfl) (by decide)

/-- laws.eqTriggerS -/
def c_laws_eqTriggerS : LC :=
  .seq (.ops [⟨some 4, none, .mov (.const (.bool false))⟩])
  (.seq (.seq (.ops [⟨some 6, none, .mov (.tmp 0)⟩,
     ⟨some 7, none, .lenSl (.tmp 6)⟩,
     ⟨some 8, none, .mov (.tmp 1)⟩,
     ⟨some 9, none, .lenSl (.tmp 8)⟩,
     ⟨some 10, none, .bin .neq false (.tmp 7) (.tmp 9)⟩])
   (.cond (.tmp 10)
    (.seq (.ops [⟨some 4, none, .mov (.const (.bool false))⟩])
     (.ret))
    (.skip)))
  (.seq (.seq (.ops [⟨some 5, none, .mov (.const (.int .i64 0))⟩])
   (.block 0 (.loop (.seq (.seq (.ops [⟨some 11, none, .mov (.tmp 5)⟩,
        ⟨some 12, none, .mov (.tmp 0)⟩,
        ⟨some 13, none, .lenSl (.tmp 12)⟩,
        ⟨some 14, none, .bin .lss false (.tmp 11) (.tmp 13)⟩])
      (.cond (.tmp 14)
       (.skip)
       (.exit 0)))
     (.seq (.block 1 (.seq (.dops [⟨some 17, none, .mov (.tmp 0)⟩,
         ⟨some 18, none, .mov (.tmp 5)⟩,
         ⟨some 19, none, .indexAddr 7 (.tmp 17) (.tmp 18)⟩,
         ⟨some 20, none, .load (some 7) (.tmp 19)⟩,
         ⟨some 21, none, .mov (.tmp 1)⟩,
         ⟨some 22, none, .mov (.tmp 5)⟩,
         ⟨some 23, none, .indexAddr 7 (.tmp 21) (.tmp 22)⟩,
         ⟨some 24, none, .load (some 7) (.tmp 23)⟩,
         ⟨some 25, none, .call 12 [.tmp 20, .tmp 24]⟩,
         ⟨some 26, none, .un .not (.tmp 25)⟩])
       (.cond (.tmp 26)
        (.seq (.ops [⟨some 4, none, .mov (.const (.bool false))⟩])
         (.ret))
        (.skip))))
     (.ops [⟨some 15, none, .mov (.tmp 5)⟩,
      ⟨some 16, none, .bin .add false (.tmp 15) (.const (.int .i64 1))⟩,
      ⟨some 5, none, .mov (.tmp 16)⟩]))))))
  (.seq (.ops [⟨some 4, none, .mov (.const (.bool true))⟩])
  (.ret))))
def lf_laws_eqTriggerS : LF := { np := 2, N := 27, body := c_laws_eqTriggerS, res := [.tmp 4] }
theorem low_laws_eqTriggerS : LowF Try.prog Try.f23 lf_laws_eqTriggerS := LowF.mk' (by kernel_rfl) (by kernel_rfl) (by kernel_rfl) (by decide)

/-- laws.eqInt64S -/
def c_laws_eqInt64S : LC :=
  .seq (.ops [⟨some 4, none, .mov (.const (.bool false))⟩])
  (.seq (.seq (.ops [⟨some 6, none, .mov (.tmp 0)⟩,
     ⟨some 7, none, .lenSl (.tmp 6)⟩,
     ⟨some 8, none, .mov (.tmp 1)⟩,
     ⟨some 9, none, .lenSl (.tmp 8)⟩,
     ⟨some 10, none, .bin .neq false (.tmp 7) (.tmp 9)⟩])
   (.cond (.tmp 10)
    (.seq (.ops [⟨some 4, none, .mov (.const (.bool false))⟩])
     (.ret))
    (.skip)))
  (.seq (.seq (.ops [⟨some 5, none, .mov (.const (.int .i64 0))⟩])
   (.block 0 (.loop (.seq (.seq (.ops [⟨some 11, none, .mov (.tmp 5)⟩,
        ⟨some 12, none, .mov (.tmp 0)⟩,
        ⟨some 13, none, .lenSl (.tmp 12)⟩,
        ⟨some 14, none, .bin .lss false (.tmp 11) (.tmp 13)⟩])
      (.cond (.tmp 14)
       (.skip)
       (.exit 0)))
     (.seq (.block 1 (.seq (.dops [⟨some 17, none, .mov (.tmp 0)⟩,
         ⟨some 18, none, .mov (.tmp 5)⟩,
         ⟨some 19, none, .indexAddr 1 (.tmp 17) (.tmp 18)⟩,
         ⟨some 20, none, .load none (.tmp 19)⟩,
         ⟨some 21, none, .mov (.tmp 1)⟩,
         ⟨some 22, none, .mov (.tmp 5)⟩,
         ⟨some 23, none, .indexAddr 1 (.tmp 21) (.tmp 22)⟩,
         ⟨some 24, none, .load none (.tmp 23)⟩,
         ⟨some 25, none, .bin .neq false (.tmp 20) (.tmp 24)⟩])
       (.cond (.tmp 25)
        (.seq (.ops [⟨some 4, none, .mov (.const (.bool false))⟩])
         (.ret))
        (.skip))))
     (.ops [⟨some 15, none, .mov (.tmp 5)⟩,
      ⟨some 16, none, .bin .add false (.tmp 15) (.const (.int .i64 1))⟩,
      ⟨some 5, none, .mov (.tmp 16)⟩]))))))
  (.seq (.ops [⟨some 4, none, .mov (.const (.bool true))⟩])
  (.ret))))
def lf_laws_eqInt64S : LF := { np := 2, N := 26, body := c_laws_eqInt64S, res := [.tmp 4] }
theorem low_laws_eqInt64S : LowF Try.prog Try.f22 lf_laws_eqInt64S := LowF.mk' (by kernel_rfl) (by kernel_rfl) (by kernel_rfl) (by decide)

theorem szStringS_ok (xs : List ByteArray) (l : Int) (h0 : 0 ≤ l) (h1 : l ≤ 1048576) (hw : wfList wfStr xs) (h : List Row) : PureCall Try.prog 27 [.list 0 1 (xs.map cStr), .val (.int .i64 l)] h (.val (.int .i64 (szR (szList ByteArray.size xs) l))) := by
  obtain ⟨hx, hs⟩ := hw
  refine pure_fn mixed Try.func27 low_laws_szStringS rfl rfl ?_ h
  simp (disch := omega) only [lf_laws_szStringS, c_laws_szStringS, Ex_cond, go_sem, Nat.reduceEqDiff, Nat.reduceAdd, Nat.reduceLeDiff, reduceCtorEq, Int.reduceLT, Int.reduceLE, Int.reduceNeg, Int.reduceSub, Int.reduceAdd, Int.reduceToNat, ↓reduceIte, wrap_in]
  refine ⟨fun hn => ?_, fun hn => ?_⟩
  · rw [szR_neg (by simp only [szList]; omega)]; exact resolve_val _ _
  · refine Ex_loop (fun n t h => ∃ (k : Nat) (m : Int), t 0 = .list 0 1 (xs.map cStr) ∧ t 5 = .val (.int .i64 k) ∧ t 1 = .val (.int .i64 m) ∧ h = [] ∧ n = xs.length - k ∧ k ≤ xs.length ∧ 0 ≤ m ∧ m ≤ 1048576 ∧ szR (szList ByteArray.size xs) l = szR (sumOf ByteArray.size (xs.drop k)) m) xs.length ?_ ?_
    · exact ⟨0, l - xs.length, rfl, rfl, rfl, rfl, rfl, Nat.zero_le _, by omega, by omega, szR_sub (by omega)⟩
    · rintro J hJ n t h ⟨k, m, t0, t5, t1, rfl, rfl, hk, hm0, hm1, hS⟩
      by_cases hlt : k < xs.length
      · have hd := sumOf_drop ByteArray.size xs k hlt
        have hwk := hs _ (List.getElem_mem hlt)
        rw [hd] at hS
        unfold wfStr at hwk
        simp (disch := omega) only [t0, t5, t1, hlt, Ex_cond, go_sem, Nat.reduceEqDiff, Nat.reduceAdd, Nat.reduceLeDiff, reduceCtorEq, Int.reduceLT, Int.reduceLE, Int.reduceNeg, Int.reduceSub, Int.reduceAdd, Int.reduceToNat, ↓reduceIte, wrap_in]
        refine ⟨fun hn2 => ?_, fun hn2 => ?_⟩
        · rw [hS, szR_neg (by omega)]; exact resolve_val _ _
        · exact ⟨xs.length - (k + 1), by omega, hJ _ _ _ ⟨k + 1, m - xs[k].size, by simp [upd, t0], by simp [upd], by simp [upd], rfl, rfl, by omega, by omega, by omega, by rw [hS, szR_sub (by omega)]⟩⟩
      · simp (disch := omega) only [t0, t5, t1, hlt, Ex_cond, go_sem, Nat.reduceEqDiff, Nat.reduceAdd, Nat.reduceLeDiff, reduceCtorEq, Int.reduceLT, Int.reduceLE, Int.reduceNeg, Int.reduceSub, Int.reduceAdd, Int.reduceToNat, ↓reduceIte]
        rw [hS, List.drop_eq_nil_of_le (by omega), szR_pos (by simp only [sumOf]; omega)]
        simp only [sumOf, Int.natCast_zero, Int.sub_zero]
        exact resolve_val _ _

theorem toStringS_ok (xs : List ByteArray) (hb : (szList ByteArray.size) xs ≤ 1048576) (h : List Row) : PureCall Try.prog 31 [.list 0 1 (xs.map cStr)] h (.list 0 1 (xs.map cStr)) := by
  have hx := Nat.le_trans (szList_length (f := ByteArray.size) (xs := xs)) hb
  refine pure_fn mixed Try.func31 low_laws_toStringS rfl rfl ?_ h
  simp (disch := omega) only [lf_laws_toStringS, c_laws_toStringS, Ex_cond, go_sem, Nat.reduceEqDiff, Nat.reduceAdd, Nat.reduceLeDiff, reduceCtorEq, Int.reduceLT, Int.reduceLE, Int.reduceNeg, Int.reduceSub, Int.reduceAdd, Int.reduceToNat, ↓reduceIte, wrap_in]
  refine ⟨by omega, by omega, ?_⟩
  refine Ex_loop (fun n t h => ∃ k : Nat, t 0 = .list 0 1 (xs.map cStr) ∧ t 3 = .own 0 xs.length ∧ t 4 = .val (.int .i64 k) ∧ h = [⟨9, 1, fillTo (xs.map cStr) [.val (.string ⟨#[]⟩)] k⟩] ∧ n = xs.length - k ∧ k ≤ xs.length) xs.length ?_ ?_
  · exact ⟨0, rfl, rfl, rfl, by rw [fillTo_zero]; simp, rfl, Nat.zero_le _⟩
  · rintro J hJ n t h ⟨k, t0, t3, t4, rfl, rfl, hk⟩
    have fl : (fillTo (xs.map cStr) [.val (.string ⟨#[]⟩)] k).length = xs.length := by rw [fillTo_length _ _ (by simpa using hk)]; simp
    by_cases hlt : k < xs.length
    · have fg : (fillTo (xs.map cStr) [.val (.string ⟨#[]⟩)] k)[k]? = some [.val (.string ⟨#[]⟩)] := fillTo_get _ _ (by simpa using hlt)
      have fs := fillTo_set' (xs.map cStr) [.val (.string ⟨#[]⟩)] (cStr xs[k]) (k := k) (by rw [List.getElem?_map, List.getElem?_eq_getElem hlt]; rfl)
      simp (disch := omega) only [t0, t3, t4, hlt, fl, fg, Ex_cond, go_sem, Nat.reduceEqDiff, Nat.reduceAdd, Nat.reduceLeDiff, reduceCtorEq, Int.reduceLT, Int.reduceLE, Int.reduceNeg, Int.reduceSub, Int.reduceAdd, Int.reduceToNat, ↓reduceIte, wrap_in]
      try simp (disch := omega) only [fs, fl, fg, Ex_cond, go_sem, Nat.reduceEqDiff, Nat.reduceAdd, Nat.reduceLeDiff, reduceCtorEq, Int.reduceLT, Int.reduceLE, Int.reduceNeg, Int.reduceSub, Int.reduceAdd, Int.reduceToNat, ↓reduceIte, wrap_in]
      exact ⟨xs.length - (k + 1), by omega, hJ _ _ _ ⟨k + 1, by simp [upd, t0], by simp [upd, t3], by simp [upd], by simp [fs], rfl, by omega⟩⟩
    · simp (disch := omega) only [t0, t3, t4, hlt, fl, Ex_cond, go_sem, Nat.reduceEqDiff, Nat.reduceAdd, Nat.reduceLeDiff, reduceCtorEq, Int.reduceLT, Int.reduceLE, Int.reduceNeg, Int.reduceSub, Int.reduceAdd, Int.reduceToNat, ↓reduceIte, wrap_in]
      have ff : fillTo (xs.map cStr) [.val (.string ⟨#[]⟩)] k = xs.map cStr := fillTo_all _ _ (by simp; omega)
      rw [ff]
      exact resolve_own (r := ⟨9, 1, xs.map cStr⟩) rfl (by simp) (by intro e he; obtain ⟨x, _, q⟩ := List.mem_map.1 he; subst q; rfl)

theorem eqStringS_ok (xs : List ByteArray) (hb : (szList ByteArray.size) xs ≤ 1048576) (h : List Row) : PureCall Try.prog 11 [.list 0 1 (xs.map cStr), .list 0 1 (xs.map cStr)] h (.val (.bool true)) := by
  have hx := Nat.le_trans (szList_length (f := ByteArray.size) (xs := xs)) hb
  refine pure_fn mixed Try.func11 low_laws_eqStringS rfl rfl ?_ h
  simp (disch := omega) only [lf_laws_eqStringS, c_laws_eqStringS, Ex_cond, go_sem, Nat.reduceEqDiff, Nat.reduceAdd, Nat.reduceLeDiff, reduceCtorEq, Int.reduceLT, Int.reduceLE, Int.reduceNeg, Int.reduceSub, Int.reduceAdd, Int.reduceToNat, ↓reduceIte, wrap_in]
  refine Ex_loop (fun n t h => ∃ k : Nat, t 0 = .list 0 1 (xs.map cStr) ∧ t 1 = .list 0 1 (xs.map cStr) ∧ t 5 = .val (.int .i64 k) ∧ h = [] ∧ n = xs.length - k ∧ k ≤ xs.length) xs.length ?_ ?_
  · exact ⟨0, rfl, rfl, rfl, rfl, rfl, Nat.zero_le _⟩
  · rintro J hJ n t h ⟨k, t0, t1, t5, rfl, rfl, hk⟩
    by_cases hlt : k < xs.length
    · simp (disch := omega) only [t0, t1, t5, hlt, Ex_cond, go_sem, Nat.reduceEqDiff, Nat.reduceAdd, Nat.reduceLeDiff, reduceCtorEq, Int.reduceLT, Int.reduceLE, Int.reduceNeg, Int.reduceSub, Int.reduceAdd, Int.reduceToNat, ↓reduceIte, wrap_in]
      exact ⟨xs.length - (k + 1), by omega, hJ _ _ _ ⟨k + 1, by simp [upd, t0], by simp [upd, t1], by simp [upd], rfl, rfl, by omega⟩⟩
    · simp (disch := omega) only [t0, t1, t5, hlt, Ex_cond, go_sem, Nat.reduceEqDiff, Nat.reduceAdd, Nat.reduceLeDiff, reduceCtorEq, Int.reduceLT, Int.reduceLE, Int.reduceNeg, Int.reduceSub, Int.reduceAdd, Int.reduceToNat, ↓reduceIte, wrap_in]
      exact resolve_val _ _

theorem szTrigger_ok (x : GTrigger) (l : Int) (h0 : 0 ≤ l) (h1 : l ≤ 1048576) (hw : GTrigger.wf x) (h : List Row) : PureCall Try.prog 5 [.agg (GTrigger.cells x), .val (.int .i64 l)] h (.val (.int .i64 (szR (GTrigger.sz x) l))) := by
  obtain ⟨w_Id, w_Name, w_Subs, w_OnSet, w_OnKill, w_Routine, w_Label, _⟩ := hw
  have hsz : GTrigger.sz x = ByteArray.size x.Name + (szList ByteArray.size) x.Subs + ByteArray.size x.Routine + ByteArray.size x.Label := rfl
  refine pure_fn mixed Try.func5 low_laws_szTrigger rfl rfl ?_ h
  unfold wfStr at w_Name
  unfold wfStr at w_Routine
  unfold wfStr at w_Label
  simp (disch := omega) only [lf_laws_szTrigger, c_laws_szTrigger, GTrigger.cells, Ex_cond, go_sem, Nat.reduceEqDiff, Nat.reduceAdd, Nat.reduceLeDiff, reduceCtorEq, Int.reduceLT, Int.reduceLE, Int.reduceNeg, Int.reduceSub, Int.reduceAdd, Int.reduceToNat, ↓reduceIte, wrap_in]
  refine ⟨fun hn => ?_, fun hn_Name => ?_⟩
  · rw [szR_neg (by omega)]; exact resolve_val _ _
  try simp (disch := omega) only [wrap_in]
  refine PureCall.call (szStringS_ok x.Subs (l - ByteArray.size x.Name) (by omega) (by omega) w_Subs _) ?_
  by_cases hn_Subs : ((szList ByteArray.size) x.Subs : Int) ≤ l - ByteArray.size x.Name
  case neg =>
    rw [szR_neg (n := (szList ByteArray.size) x.Subs) (l := l - ByteArray.size x.Name) (by omega)]
    simp (disch := omega) only [Ex_cond, go_sem, Nat.reduceEqDiff, Nat.reduceAdd, Nat.reduceLeDiff, reduceCtorEq, Int.reduceLT, Int.reduceLE, Int.reduceNeg, Int.reduceSub, Int.reduceAdd, Int.reduceToNat, ↓reduceIte, wrap_in]
    rw [szR_neg (by omega)]; exact resolve_val _ _
  rw [szR_pos (n := (szList ByteArray.size) x.Subs) (l := l - ByteArray.size x.Name) hn_Subs]
  simp (disch := omega) only [Ex_cond, go_sem, Nat.reduceEqDiff, Nat.reduceAdd, Nat.reduceLeDiff, reduceCtorEq, Int.reduceLT, Int.reduceLE, Int.reduceNeg, Int.reduceSub, Int.reduceAdd, Int.reduceToNat, ↓reduceIte, wrap_in]
  refine ⟨fun hn => absurd hn (by omega), fun _ => ?_⟩
  refine ⟨fun hn => ?_, fun hn_Routine => ?_⟩
  · rw [szR_neg (by omega)]; exact resolve_val _ _
  try simp (disch := omega) only [wrap_in]
  refine ⟨fun hn => ?_, fun hn_Label => ?_⟩
  · rw [szR_neg (by omega)]; exact resolve_val _ _
  try simp (disch := omega) only [wrap_in]
  rw [szR_pos (by omega), hsz]
  have hfin : l - ((ByteArray.size x.Name + (szList ByteArray.size) x.Subs + ByteArray.size x.Routine + ByteArray.size x.Label : Nat) : Int) = l - ByteArray.size x.Name - (szList ByteArray.size) x.Subs - ByteArray.size x.Routine - ByteArray.size x.Label := by omega
  rw [hfin]; exact resolve_val _ _

theorem toTrigger_ok (x : GTrigger) (hb : GTrigger.sz x ≤ 1048576) (h : List Row) : PureCall Try.prog 8 [.agg (GTrigger.cells x)] h (.agg (GTrigger.cells x)) := by
  have hsz : GTrigger.sz x = ByteArray.size x.Name + (szList ByteArray.size) x.Subs + ByteArray.size x.Routine + ByteArray.size x.Label := rfl
  refine pure_fn mixed Try.func8 low_laws_toTrigger rfl rfl ?_ h
  simp (disch := omega) only [lf_laws_toTrigger, c_laws_toTrigger, GTrigger.cells, Ex_cond, go_sem, Nat.reduceEqDiff, Nat.reduceAdd, Nat.reduceLeDiff, reduceCtorEq, Int.reduceLT, Int.reduceLE, Int.reduceNeg, Int.reduceSub, Int.reduceAdd, Int.reduceToNat, ↓reduceIte, post_cell]
  refine PureCall.call (toStringS_ok x.Subs (by omega) _) ?_
  simp (disch := omega) only [Ex_cond, go_sem, Nat.reduceEqDiff, Nat.reduceAdd, Nat.reduceLeDiff, reduceCtorEq, Int.reduceLT, Int.reduceLE, Int.reduceNeg, Int.reduceSub, Int.reduceAdd, Int.reduceToNat, ↓reduceIte, post_cell]
  exact resolve_agg _ _ rfl

theorem eqTrigger_ok (x : GTrigger) (hb : GTrigger.sz x ≤ 1048576) (h : List Row) : PureCall Try.prog 12 [.agg (GTrigger.cells x), .agg (GTrigger.cells x)] h (.val (.bool true)) := by
  have hsz : GTrigger.sz x = ByteArray.size x.Name + (szList ByteArray.size) x.Subs + ByteArray.size x.Routine + ByteArray.size x.Label := rfl
  refine pure_fn mixed Try.func12 low_laws_eqTrigger rfl rfl ?_ h
  simp (disch := omega) only [lf_laws_eqTrigger, c_laws_eqTrigger, GTrigger.cells, Ex_cond, go_sem, Nat.reduceEqDiff, Nat.reduceAdd, Nat.reduceLeDiff, reduceCtorEq, Int.reduceLT, Int.reduceLE, Int.reduceNeg, Int.reduceSub, Int.reduceAdd, Int.reduceToNat, ↓reduceIte]
  refine PureCall.call (eqStringS_ok x.Subs (by omega) _) ?_
  simp (disch := omega) only [Ex_cond, go_sem, Nat.reduceEqDiff, Nat.reduceAdd, Nat.reduceLeDiff, reduceCtorEq, Int.reduceLT, Int.reduceLE, Int.reduceNeg, Int.reduceSub, Int.reduceAdd, Int.reduceToNat, ↓reduceIte]
  exact resolve_val _ _

theorem szChange_ok (x : GChange) (l : Int) (h0 : 0 ≤ l) (h1 : l ≤ 1048576) (hw : GChange.wf x) (h : List Row) : PureCall Try.prog 6 [.agg (GChange.cells x), .val (.int .i64 l)] h (.val (.int .i64 (szR (GChange.sz x) l))) := by
  obtain ⟨w_Kind, w_Name, w_Subs, w_Value, _⟩ := hw
  have hsz : GChange.sz x = ByteArray.size x.Name + (szList ByteArray.size) x.Subs + ByteArray.size x.Value := rfl
  refine pure_fn mixed Try.func6 low_laws_szChange rfl rfl ?_ h
  unfold wfStr at w_Name
  unfold wfStr at w_Value
  simp (disch := omega) only [lf_laws_szChange, c_laws_szChange, GChange.cells, Ex_cond, go_sem, Nat.reduceEqDiff, Nat.reduceAdd, Nat.reduceLeDiff, reduceCtorEq, Int.reduceLT, Int.reduceLE, Int.reduceNeg, Int.reduceSub, Int.reduceAdd, Int.reduceToNat, ↓reduceIte, wrap_in]
  refine ⟨fun hn => ?_, fun hn_Name => ?_⟩
  · rw [szR_neg (by omega)]; exact resolve_val _ _
  try simp (disch := omega) only [wrap_in]
  refine PureCall.call (szStringS_ok x.Subs (l - ByteArray.size x.Name) (by omega) (by omega) w_Subs _) ?_
  by_cases hn_Subs : ((szList ByteArray.size) x.Subs : Int) ≤ l - ByteArray.size x.Name
  case neg =>
    rw [szR_neg (n := (szList ByteArray.size) x.Subs) (l := l - ByteArray.size x.Name) (by omega)]
    simp (disch := omega) only [Ex_cond, go_sem, Nat.reduceEqDiff, Nat.reduceAdd, Nat.reduceLeDiff, reduceCtorEq, Int.reduceLT, Int.reduceLE, Int.reduceNeg, Int.reduceSub, Int.reduceAdd, Int.reduceToNat, ↓reduceIte, wrap_in]
    rw [szR_neg (by omega)]; exact resolve_val _ _
  rw [szR_pos (n := (szList ByteArray.size) x.Subs) (l := l - ByteArray.size x.Name) hn_Subs]
  simp (disch := omega) only [Ex_cond, go_sem, Nat.reduceEqDiff, Nat.reduceAdd, Nat.reduceLeDiff, reduceCtorEq, Int.reduceLT, Int.reduceLE, Int.reduceNeg, Int.reduceSub, Int.reduceAdd, Int.reduceToNat, ↓reduceIte, wrap_in]
  refine ⟨fun hn => absurd hn (by omega), fun _ => ?_⟩
  refine ⟨fun hn => ?_, fun hn_Value => ?_⟩
  · rw [szR_neg (by omega)]; exact resolve_val _ _
  try simp (disch := omega) only [wrap_in]
  rw [szR_pos (by omega), hsz]
  have hfin : l - ((ByteArray.size x.Name + (szList ByteArray.size) x.Subs + ByteArray.size x.Value : Nat) : Int) = l - ByteArray.size x.Name - (szList ByteArray.size) x.Subs - ByteArray.size x.Value := by omega
  rw [hfin]; exact resolve_val _ _

theorem toChange_ok (x : GChange) (hb : GChange.sz x ≤ 1048576) (h : List Row) : PureCall Try.prog 9 [.agg (GChange.cells x)] h (.agg (GChange.cells x)) := by
  have hsz : GChange.sz x = ByteArray.size x.Name + (szList ByteArray.size) x.Subs + ByteArray.size x.Value := rfl
  refine pure_fn mixed Try.func9 low_laws_toChange rfl rfl ?_ h
  simp (disch := omega) only [lf_laws_toChange, c_laws_toChange, GChange.cells, Ex_cond, go_sem, Nat.reduceEqDiff, Nat.reduceAdd, Nat.reduceLeDiff, reduceCtorEq, Int.reduceLT, Int.reduceLE, Int.reduceNeg, Int.reduceSub, Int.reduceAdd, Int.reduceToNat, ↓reduceIte, post_cell]
  refine PureCall.call (toStringS_ok x.Subs (by omega) _) ?_
  simp (disch := omega) only [Ex_cond, go_sem, Nat.reduceEqDiff, Nat.reduceAdd, Nat.reduceLeDiff, reduceCtorEq, Int.reduceLT, Int.reduceLE, Int.reduceNeg, Int.reduceSub, Int.reduceAdd, Int.reduceToNat, ↓reduceIte, post_cell]
  exact resolve_agg _ _ rfl

theorem eqChange_ok (x : GChange) (hb : GChange.sz x ≤ 1048576) (h : List Row) : PureCall Try.prog 13 [.agg (GChange.cells x), .agg (GChange.cells x)] h (.val (.bool true)) := by
  have hsz : GChange.sz x = ByteArray.size x.Name + (szList ByteArray.size) x.Subs + ByteArray.size x.Value := rfl
  refine pure_fn mixed Try.func13 low_laws_eqChange rfl rfl ?_ h
  simp (disch := omega) only [lf_laws_eqChange, c_laws_eqChange, GChange.cells, Ex_cond, go_sem, Nat.reduceEqDiff, Nat.reduceAdd, Nat.reduceLeDiff, reduceCtorEq, Int.reduceLT, Int.reduceLE, Int.reduceNeg, Int.reduceSub, Int.reduceAdd, Int.reduceToNat, ↓reduceIte]
  refine PureCall.call (eqStringS_ok x.Subs (by omega) _) ?_
  simp (disch := omega) only [Ex_cond, go_sem, Nat.reduceEqDiff, Nat.reduceAdd, Nat.reduceLeDiff, reduceCtorEq, Int.reduceLT, Int.reduceLE, Int.reduceNeg, Int.reduceSub, Int.reduceAdd, Int.reduceToNat, ↓reduceIte]
  exact resolve_val _ _

theorem szTriggerS_ok (xs : List GTrigger) (l : Int) (h0 : 0 ≤ l) (h1 : l ≤ 1048576) (hw : wfList GTrigger.wf xs) (h : List Row) : PureCall Try.prog 18 [.list 0 7 (xs.map GTrigger.cells), .val (.int .i64 l)] h (.val (.int .i64 (szR (szList GTrigger.sz xs) l))) := by
  obtain ⟨hx, hs⟩ := hw
  refine pure_fn mixed Try.func18 low_laws_szTriggerS rfl rfl ?_ h
  simp (disch := omega) only [lf_laws_szTriggerS, c_laws_szTriggerS, Ex_cond, go_sem, Nat.reduceEqDiff, Nat.reduceAdd, Nat.reduceLeDiff, reduceCtorEq, Int.reduceLT, Int.reduceLE, Int.reduceNeg, Int.reduceSub, Int.reduceAdd, Int.reduceToNat, ↓reduceIte, wrap_in]
  refine ⟨fun hn => ?_, fun hn => ?_⟩
  · rw [szR_neg (by simp only [szList]; omega)]; exact resolve_val _ _
  · refine Ex_loop (fun n t h => ∃ (k : Nat) (m : Int), t 0 = .list 0 7 (xs.map GTrigger.cells) ∧ t 5 = .val (.int .i64 k) ∧ t 1 = .val (.int .i64 m) ∧ h = [] ∧ n = xs.length - k ∧ k ≤ xs.length ∧ 0 ≤ m ∧ m ≤ 1048576 ∧ szR (szList GTrigger.sz xs) l = szR (sumOf GTrigger.sz (xs.drop k)) m) xs.length ?_ ?_
    · exact ⟨0, l - xs.length, rfl, rfl, rfl, rfl, rfl, Nat.zero_le _, by omega, by omega, szR_sub (by omega)⟩
    · rintro J hJ n t h ⟨k, m, t0, t5, t1, rfl, rfl, hk, hm0, hm1, hS⟩
      by_cases hlt : k < xs.length
      · have hd := sumOf_drop GTrigger.sz xs k hlt
        have hwk := hs _ (List.getElem_mem hlt)
        rw [hd] at hS
        simp (disch := omega) only [t0, t5, t1, hlt, GTrigger.cells, Ex_cond, go_sem, Nat.reduceEqDiff, Nat.reduceAdd, Nat.reduceLeDiff, reduceCtorEq, Int.reduceLT, Int.reduceLE, Int.reduceNeg, Int.reduceSub, Int.reduceAdd, Int.reduceToNat, ↓reduceIte, wrap_in]
        refine PureCall.call (szTrigger_ok xs[k] m hm0 hm1 hwk []) ?_
        by_cases hc : (GTrigger.sz xs[k] : Int) ≤ m
        · rw [szR_pos (n := GTrigger.sz xs[k]) (l := m) hc]
          simp (disch := omega) only [t0, t5, t1, Ex_cond, go_sem, Nat.reduceEqDiff, Nat.reduceAdd, Nat.reduceLeDiff, reduceCtorEq, Int.reduceLT, Int.reduceLE, Int.reduceNeg, Int.reduceSub, Int.reduceAdd, Int.reduceToNat, ↓reduceIte, wrap_in]
          refine ⟨fun hn2 => absurd hn2 (by omega), fun _ => ?_⟩
          exact ⟨xs.length - (k + 1), by omega, hJ _ _ _ ⟨k + 1, m - GTrigger.sz xs[k], by simp [upd, t0], by simp [upd], by simp [upd], rfl, rfl, by omega, by omega, by omega, by rw [hS, szR_sub (by omega)]⟩⟩
        · rw [szR_neg (n := GTrigger.sz xs[k]) (l := m) (by omega)]
          simp (disch := omega) only [t0, t5, t1, Ex_cond, go_sem, Nat.reduceEqDiff, Nat.reduceAdd, Nat.reduceLeDiff, reduceCtorEq, Int.reduceLT, Int.reduceLE, Int.reduceNeg, Int.reduceSub, Int.reduceAdd, Int.reduceToNat, ↓reduceIte, wrap_in]
          rw [hS, szR_neg (by omega)]; exact resolve_val _ _
      · simp (disch := omega) only [t0, t5, t1, hlt, Ex_cond, go_sem, Nat.reduceEqDiff, Nat.reduceAdd, Nat.reduceLeDiff, reduceCtorEq, Int.reduceLT, Int.reduceLE, Int.reduceNeg, Int.reduceSub, Int.reduceAdd, Int.reduceToNat, ↓reduceIte]
        rw [hS, List.drop_eq_nil_of_le (by omega), szR_pos (by simp only [sumOf]; omega)]
        simp only [sumOf, Int.natCast_zero, Int.sub_zero]
        exact resolve_val _ _

theorem toTriggerS_ok (xs : List GTrigger) (hb : (szList GTrigger.sz) xs ≤ 1048576) (h : List Row) : PureCall Try.prog 20 [.list 0 7 (xs.map GTrigger.cells)] h (.list 0 7 (xs.map GTrigger.cells)) := by
  have hx := Nat.le_trans (szList_length (f := GTrigger.sz) (xs := xs)) hb
  refine pure_fn mixed Try.func20 low_laws_toTriggerS rfl rfl ?_ h
  simp (disch := omega) only [lf_laws_toTriggerS, c_laws_toTriggerS, Ex_cond, go_sem, Nat.reduceEqDiff, Nat.reduceAdd, Nat.reduceLeDiff, reduceCtorEq, Int.reduceLT, Int.reduceLE, Int.reduceNeg, Int.reduceSub, Int.reduceAdd, Int.reduceToNat, ↓reduceIte, wrap_in]
  refine ⟨by omega, by omega, ?_⟩
  refine Ex_loop (fun n t h => ∃ k : Nat, t 0 = .list 0 7 (xs.map GTrigger.cells) ∧ t 3 = .own 0 xs.length ∧ t 4 = .val (.int .i64 k) ∧ h = [⟨31, 7, fillTo (xs.map GTrigger.cells) [.val (.int .i64 0), .val (.string ⟨#[]⟩), .val (.slice none 0 0), .val (.bool false), .val (.bool false), .val (.string ⟨#[]⟩), .val (.string ⟨#[]⟩)] k⟩] ∧ n = xs.length - k ∧ k ≤ xs.length) xs.length ?_ ?_
  · exact ⟨0, rfl, rfl, rfl, by rw [fillTo_zero]; simp, rfl, Nat.zero_le _⟩
  · rintro J hJ n t h ⟨k, t0, t3, t4, rfl, rfl, hk⟩
    have fl : (fillTo (xs.map GTrigger.cells) [.val (.int .i64 0), .val (.string ⟨#[]⟩), .val (.slice none 0 0), .val (.bool false), .val (.bool false), .val (.string ⟨#[]⟩), .val (.string ⟨#[]⟩)] k).length = xs.length := by rw [fillTo_length _ _ (by simpa using hk)]; simp
    by_cases hlt : k < xs.length
    · have fg : (fillTo (xs.map GTrigger.cells) [.val (.int .i64 0), .val (.string ⟨#[]⟩), .val (.slice none 0 0), .val (.bool false), .val (.bool false), .val (.string ⟨#[]⟩), .val (.string ⟨#[]⟩)] k)[k]? = some [.val (.int .i64 0), .val (.string ⟨#[]⟩), .val (.slice none 0 0), .val (.bool false), .val (.bool false), .val (.string ⟨#[]⟩), .val (.string ⟨#[]⟩)] := fillTo_get _ _ (by simpa using hlt)
      have fs := fillTo_set' (xs.map GTrigger.cells) [.val (.int .i64 0), .val (.string ⟨#[]⟩), .val (.slice none 0 0), .val (.bool false), .val (.bool false), .val (.string ⟨#[]⟩), .val (.string ⟨#[]⟩)] (GTrigger.cells xs[k]) (k := k) (by rw [List.getElem?_map, List.getElem?_eq_getElem hlt]; rfl)
      simp only [GTrigger.cells] at fs
      simp (disch := omega) only [t0, t3, t4, hlt, fl, fg, GTrigger.cells, Ex_cond, go_sem, Nat.reduceEqDiff, Nat.reduceAdd, Nat.reduceLeDiff, reduceCtorEq, Int.reduceLT, Int.reduceLE, Int.reduceNeg, Int.reduceSub, Int.reduceAdd, Int.reduceToNat, ↓reduceIte, wrap_in]
      refine PureCall.call (toTrigger_ok xs[k] (by have := szList_mem (f := GTrigger.sz) (List.getElem_mem hlt); omega) _) ?_
      simp (disch := omega) only [t0, t3, t4, hlt, fl, fg, fs, GTrigger.cells, Ex_cond, go_sem, Nat.reduceEqDiff, Nat.reduceAdd, Nat.reduceLeDiff, reduceCtorEq, Int.reduceLT, Int.reduceLE, Int.reduceNeg, Int.reduceSub, Int.reduceAdd, Int.reduceToNat, ↓reduceIte, wrap_in]
      exact ⟨xs.length - (k + 1), by omega, hJ _ _ _ ⟨k + 1, by simp [upd, t0], by simp [upd, t3], by simp [upd], rfl, rfl, by omega⟩⟩
    · simp (disch := omega) only [t0, t3, t4, hlt, fl, Ex_cond, go_sem, Nat.reduceEqDiff, Nat.reduceAdd, Nat.reduceLeDiff, reduceCtorEq, Int.reduceLT, Int.reduceLE, Int.reduceNeg, Int.reduceSub, Int.reduceAdd, Int.reduceToNat, ↓reduceIte, wrap_in]
      have ff : fillTo (xs.map GTrigger.cells) [.val (.int .i64 0), .val (.string ⟨#[]⟩), .val (.slice none 0 0), .val (.bool false), .val (.bool false), .val (.string ⟨#[]⟩), .val (.string ⟨#[]⟩)] k = xs.map GTrigger.cells := fillTo_all _ _ (by simp; omega)
      rw [ff]
      exact resolve_own (r := ⟨31, 7, xs.map GTrigger.cells⟩) rfl (by simp) (by intro e he; obtain ⟨x, _, q⟩ := List.mem_map.1 he; subst q; rfl)

theorem eqTriggerS_ok (xs : List GTrigger) (hb : (szList GTrigger.sz) xs ≤ 1048576) (h : List Row) : PureCall Try.prog 23 [.list 0 7 (xs.map GTrigger.cells), .list 0 7 (xs.map GTrigger.cells)] h (.val (.bool true)) := by
  have hx := Nat.le_trans (szList_length (f := GTrigger.sz) (xs := xs)) hb
  refine pure_fn mixed Try.func23 low_laws_eqTriggerS rfl rfl ?_ h
  simp (disch := omega) only [lf_laws_eqTriggerS, c_laws_eqTriggerS, Ex_cond, go_sem, Nat.reduceEqDiff, Nat.reduceAdd, Nat.reduceLeDiff, reduceCtorEq, Int.reduceLT, Int.reduceLE, Int.reduceNeg, Int.reduceSub, Int.reduceAdd, Int.reduceToNat, ↓reduceIte, wrap_in]
  refine Ex_loop (fun n t h => ∃ k : Nat, t 0 = .list 0 7 (xs.map GTrigger.cells) ∧ t 1 = .list 0 7 (xs.map GTrigger.cells) ∧ t 5 = .val (.int .i64 k) ∧ h = [] ∧ n = xs.length - k ∧ k ≤ xs.length) xs.length ?_ ?_
  · exact ⟨0, rfl, rfl, rfl, rfl, rfl, Nat.zero_le _⟩
  · rintro J hJ n t h ⟨k, t0, t1, t5, rfl, rfl, hk⟩
    by_cases hlt : k < xs.length
    · simp (disch := omega) only [t0, t1, t5, hlt, GTrigger.cells, Ex_cond, go_sem, Nat.reduceEqDiff, Nat.reduceAdd, Nat.reduceLeDiff, reduceCtorEq, Int.reduceLT, Int.reduceLE, Int.reduceNeg, Int.reduceSub, Int.reduceAdd, Int.reduceToNat, ↓reduceIte, wrap_in]
      refine PureCall.q (eqTrigger_ok xs[k] (by have := szList_mem (f := GTrigger.sz) (List.getElem_mem hlt); omega) _) ?_
      simp (disch := omega) only [t0, t1, t5, hlt, GTrigger.cells, Ex_cond, go_sem, Nat.reduceEqDiff, Nat.reduceAdd, Nat.reduceLeDiff, reduceCtorEq, Int.reduceLT, Int.reduceLE, Int.reduceNeg, Int.reduceSub, Int.reduceAdd, Int.reduceToNat, ↓reduceIte, wrap_in]
      exact ⟨xs.length - (k + 1), by omega, hJ _ _ _ ⟨k + 1, by simp [upd, t0], by simp [upd, t1], by simp [upd], rfl, rfl, by omega⟩⟩
    · simp (disch := omega) only [t0, t1, t5, hlt, Ex_cond, go_sem, Nat.reduceEqDiff, Nat.reduceAdd, Nat.reduceLeDiff, reduceCtorEq, Int.reduceLT, Int.reduceLE, Int.reduceNeg, Int.reduceSub, Int.reduceAdd, Int.reduceToNat, ↓reduceIte, wrap_in]
      exact resolve_val _ _

theorem eqInt64S_ok (xs : List Int) (hb : (szList (fun _ => 0)) xs ≤ 1048576) (h : List Row) : PureCall Try.prog 22 [.list 0 1 (xs.map cInt), .list 0 1 (xs.map cInt)] h (.val (.bool true)) := by
  have hx := Nat.le_trans (szList_length (f := (fun _ => 0)) (xs := xs)) hb
  refine pure_fn mixed Try.func22 low_laws_eqInt64S rfl rfl ?_ h
  simp (disch := omega) only [lf_laws_eqInt64S, c_laws_eqInt64S, Ex_cond, go_sem, Nat.reduceEqDiff, Nat.reduceAdd, Nat.reduceLeDiff, reduceCtorEq, Int.reduceLT, Int.reduceLE, Int.reduceNeg, Int.reduceSub, Int.reduceAdd, Int.reduceToNat, ↓reduceIte, wrap_in]
  refine Ex_loop (fun n t h => ∃ k : Nat, t 0 = .list 0 1 (xs.map cInt) ∧ t 1 = .list 0 1 (xs.map cInt) ∧ t 5 = .val (.int .i64 k) ∧ h = [] ∧ n = xs.length - k ∧ k ≤ xs.length) xs.length ?_ ?_
  · exact ⟨0, rfl, rfl, rfl, rfl, rfl, Nat.zero_le _⟩
  · rintro J hJ n t h ⟨k, t0, t1, t5, rfl, rfl, hk⟩
    by_cases hlt : k < xs.length
    · simp (disch := omega) only [t0, t1, t5, hlt, Ex_cond, go_sem, Nat.reduceEqDiff, Nat.reduceAdd, Nat.reduceLeDiff, reduceCtorEq, Int.reduceLT, Int.reduceLE, Int.reduceNeg, Int.reduceSub, Int.reduceAdd, Int.reduceToNat, ↓reduceIte, wrap_in]
      exact ⟨xs.length - (k + 1), by omega, hJ _ _ _ ⟨k + 1, by simp [upd, t0], by simp [upd, t1], by simp [upd], rfl, rfl, by omega⟩⟩
    · simp (disch := omega) only [t0, t1, t5, hlt, Ex_cond, go_sem, Nat.reduceEqDiff, Nat.reduceAdd, Nat.reduceLeDiff, reduceCtorEq, Int.reduceLT, Int.reduceLE, Int.reduceNeg, Int.reduceSub, Int.reduceAdd, Int.reduceToNat, ↓reduceIte, wrap_in]
      exact resolve_val _ _

end Go.Proofs.Ytpahjgcpecmolaa
