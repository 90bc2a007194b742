/-
  Contracts of the laws own functions that count, copy and compare data. Conditions: as each theorem says, sizes up to 1048576.
-/
import Derived.Test.YtfgoppodacapdaaDat
namespace Go.Proofs.Ytfgoppodacapdaa
open Go.AW
set_option linter.unusedVariables false
set_option linter.unusedSimpArgs false

theorem mixed : Try.prog.follows .mixedOrders = true := by kernel_rfl

/-- laws.szStringS -/
def c_laws_szStringS : LC :=
  .seq (.ops [⟨some 4, none, .mov (.const (.int .i64 0))⟩])
  (.seq (.ops [⟨some 6, none, .mov (.tmp 1)⟩,
    ⟨some 7, none, .mov (.tmp 0)⟩,
    ⟨some 8, none, .lenSl (.tmp 7)⟩,
    ⟨some 9, none, .bin .sub false (.tmp 6) (.tmp 8)⟩,
    ⟨some 1, none, .mov (.tmp 9)⟩])
  (.seq (.seq (.ops [⟨some 10, none, .mov (.tmp 1)⟩,
     ⟨some 11, none, .bin .lss false (.tmp 10) (.const (.int .i64 0))⟩])
   (.cond (.tmp 11)
    (.seq (.ops [⟨some 4, none, .mov (.const (.int .i64 (-1)))⟩])
     (.ret))
    (.skip)))
  (.seq (.seq (.ops [⟨some 5, none, .mov (.const (.int .i64 0))⟩])
   (.block 0 (.loop (.seq (.seq (.ops [⟨some 12, none, .mov (.tmp 5)⟩,
        ⟨some 13, none, .mov (.tmp 0)⟩,
        ⟨some 14, none, .lenSl (.tmp 13)⟩,
        ⟨some 15, none, .bin .lss false (.tmp 12) (.tmp 14)⟩])
      (.cond (.tmp 15)
       (.skip)
       (.exit 0)))
     (.seq (.block 1 (.seq (.ops [⟨some 18, none, .mov (.tmp 1)⟩,
         ⟨some 19, none, .mov (.tmp 0)⟩,
         ⟨some 20, none, .mov (.tmp 5)⟩,
         ⟨some 21, none, .indexAddr 1 (.tmp 19) (.tmp 20)⟩,
         ⟨some 22, none, .load none (.tmp 21)⟩,
         ⟨some 23, none, .lenStr (.tmp 22)⟩,
         ⟨some 24, none, .bin .sub false (.tmp 18) (.tmp 23)⟩,
         ⟨some 1, none, .mov (.tmp 24)⟩])
       (.seq (.ops [⟨some 25, none, .mov (.tmp 1)⟩,
         ⟨some 26, none, .bin .lss false (.tmp 25) (.const (.int .i64 0))⟩])
       (.cond (.tmp 26)
        (.seq (.ops [⟨some 4, none, .mov (.const (.int .i64 (-1)))⟩])
         (.ret))
        (.skip)))))
     (.ops [⟨some 16, none, .mov (.tmp 5)⟩,
      ⟨some 17, none, .bin .add false (.tmp 16) (.const (.int .i64 1))⟩,
      ⟨some 5, none, .mov (.tmp 17)⟩]))))))
  (.seq (.ops [⟨some 27, none, .mov (.tmp 1)⟩,
    ⟨some 4, none, .mov (.tmp 27)⟩])
  (.ret)))))
def lf_laws_szStringS : LF := { np := 2, N := 28, body := c_laws_szStringS, res := [.tmp 4] }
theorem low_laws_szStringS : LowF Try.prog Try.f22 lf_laws_szStringS := LowF.mk' (by kernel_rfl) (by kernel_rfl) (by kernel_rfl) (by decide)

/-- laws.toStringS -/
def c_laws_toStringS : LC :=
  .seq (.ops [⟨some 2, none, .mov (.const (.slice none 0 0))⟩])
  (.seq (.ops [⟨some 5, none, .mov (.tmp 0)⟩,
    ⟨some 6, none, .lenSl (.tmp 5)⟩,
    ⟨some 7, none, .mkSlice 9 1 16 (.string ⟨#[]⟩) (.tmp 6) (.tmp 6)⟩,
    ⟨some 3, none, .mov (.tmp 7)⟩])
  (.seq (.seq (.ops [⟨some 4, none, .mov (.const (.int .i64 0))⟩])
   (.block 0 (.loop (.seq (.seq (.ops [⟨some 8, none, .mov (.tmp 4)⟩,
        ⟨some 9, none, .mov (.tmp 0)⟩,
        ⟨some 10, none, .lenSl (.tmp 9)⟩,
        ⟨some 11, none, .bin .lss false (.tmp 8) (.tmp 10)⟩])
      (.cond (.tmp 11)
       (.skip)
       (.exit 0)))
     (.seq (.block 1 (.ops [⟨some 14, none, .mov (.tmp 3)⟩,
        ⟨some 15, none, .mov (.tmp 4)⟩,
        ⟨some 16, none, .mov (.tmp 0)⟩,
        ⟨some 17, none, .mov (.tmp 4)⟩,
        ⟨some 18, none, .indexAddr 1 (.tmp 16) (.tmp 17)⟩,
        ⟨some 19, none, .load none (.tmp 18)⟩,
        ⟨some 20, none, .indexAddr 1 (.tmp 14) (.tmp 15)⟩,
        ⟨none, none, .store 1 (.tmp 20) (.tmp 19)⟩]))
     (.ops [⟨some 12, none, .mov (.tmp 4)⟩,
      ⟨some 13, none, .bin .add false (.tmp 12) (.const (.int .i64 1))⟩,
      ⟨some 4, none, .mov (.tmp 13)⟩]))))))
  (.seq (.ops [⟨some 21, none, .mov (.tmp 3)⟩,
    ⟨some 2, none, .mov (.tmp 21)⟩])
  (.ret))))
def lf_laws_toStringS : LF := { np := 1, N := 22, body := c_laws_toStringS, res := [.tmp 2] }
theorem low_laws_toStringS : LowF Try.prog Try.f24 lf_laws_toStringS := LowF.mk' (by kernel_rfl) (by kernel_rfl) (by kernel_rfl) (by decide)

/-- laws.eqStringS -/
def c_laws_eqStringS : LC :=
  .seq (.ops [⟨some 4, none, .mov (.const (.bool false))⟩])
  (.seq (.seq (.ops [⟨some 6, none, .mov (.tmp 0)⟩,
     ⟨some 7, none, .lenSl (.tmp 6)⟩,
     ⟨some 8, none, .mov (.tmp 1)⟩,
     ⟨some 9, none, .lenSl (.tmp 8)⟩,
     ⟨some 10, none, .bin .neq false (.tmp 7) (.tmp 9)⟩])
   (.cond (.tmp 10)
    (.seq (.ops [⟨some 4, none, .mov (.const (.bool false))⟩])
     (.ret))
    (.skip)))
  (.seq (.seq (.ops [⟨some 5, none, .mov (.const (.int .i64 0))⟩])
   (.block 0 (.loop (.seq (.seq (.ops [⟨some 11, none, .mov (.tmp 5)⟩,
        ⟨some 12, none, .mov (.tmp 0)⟩,
        ⟨some 13, none, .lenSl (.tmp 12)⟩,
        ⟨some 14, none, .bin .lss false (.tmp 11) (.tmp 13)⟩])
      (.cond (.tmp 14)
       (.skip)
       (.exit 0)))
     (.seq (.block 1 (.seq (.dops [⟨some 17, none, .mov (.tmp 0)⟩,
         ⟨some 18, none, .mov (.tmp 5)⟩,
         ⟨some 19, none, .indexAddr 1 (.tmp 17) (.tmp 18)⟩,
         ⟨some 20, none, .load none (.tmp 19)⟩,
         ⟨some 21, none, .mov (.tmp 1)⟩,
         ⟨some 22, none, .mov (.tmp 5)⟩,
         ⟨some 23, none, .indexAddr 1 (.tmp 21) (.tmp 22)⟩,
         ⟨some 24, none, .load none (.tmp 23)⟩,
         ⟨some 25, none, .bin .neq false (.tmp 20) (.tmp 24)⟩])
       (.cond (.tmp 25)
        (.seq (.ops [⟨some 4, none, .mov (.const (.bool false))⟩])
         (.ret))
        (.skip))))
     (.ops [⟨some 15, none, .mov (.tmp 5)⟩,
      ⟨some 16, none, .bin .add false (.tmp 15) (.const (.int .i64 1))⟩,
      ⟨some 5, none, .mov (.tmp 16)⟩]))))))
  (.seq (.ops [⟨some 4, none, .mov (.const (.bool true))⟩])
  (.ret))))
def lf_laws_eqStringS : LF := { np := 2, N := 26, body := c_laws_eqStringS, res := [.tmp 4] }
theorem low_laws_eqStringS : LowF Try.prog Try.f26 lf_laws_eqStringS := LowF.mk' (by kernel_rfl) (by kernel_rfl) (by kernel_rfl) (by decide)

/-- laws.szEvent -/
def c_laws_szEvent : LC :=
  .seq (.ops [⟨some 2, none, .box 24 (.tmp 0)⟩,
    ⟨some 4, none, .mov (.const (.int .i64 0))⟩])
  (.seq (.ops [⟨some 5, none, .mov (.tmp 1)⟩,
    ⟨some 6, none, .fieldAddr 1 (.tmp 2)⟩,
    ⟨some 7, none, .load none (.tmp 6)⟩,
    ⟨some 8, none, .lenStr (.tmp 7)⟩,
    ⟨some 9, none, .bin .sub false (.tmp 5) (.tmp 8)⟩,
    ⟨some 1, none, .mov (.tmp 9)⟩])
  (.seq (.seq (.ops [⟨some 10, none, .mov (.tmp 1)⟩,
     ⟨some 11, none, .bin .lss false (.tmp 10) (.const (.int .i64 0))⟩])
   (.cond (.tmp 11)
    (.seq (.ops [⟨some 4, none, .mov (.const (.int .i64 (-1)))⟩])
     (.ret))
    (.skip)))
  (.seq (.ops [⟨some 12, none, .fieldAddr 2 (.tmp 2)⟩,
    ⟨some 13, none, .load none (.tmp 12)⟩,
    ⟨some 14, none, .mov (.tmp 1)⟩,
    ⟨some 15, none, .call 22 [.tmp 13, .tmp 14]⟩,
    ⟨some 1, none, .mov (.tmp 15)⟩])
  (.seq (.seq (.ops [⟨some 16, none, .mov (.tmp 1)⟩,
     ⟨some 17, none, .bin .lss false (.tmp 16) (.const (.int .i64 0))⟩])
   (.cond (.tmp 17)
    (.seq (.ops [⟨some 4, none, .mov (.const (.int .i64 (-1)))⟩])
     (.ret))
    (.skip)))
  (.seq (.ops [⟨some 18, none, .mov (.tmp 1)⟩,
    ⟨some 19, none, .fieldAddr 3 (.tmp 2)⟩,
    ⟨some 20, none, .load none (.tmp 19)⟩,
    ⟨some 21, none, .lenStr (.tmp 20)⟩,
    ⟨some 22, none, .bin .sub false (.tmp 18) (.tmp 21)⟩,
    ⟨some 1, none, .mov (.tmp 22)⟩])
  (.seq (.seq (.ops [⟨some 23, none, .mov (.tmp 1)⟩,
     ⟨some 24, none, .bin .lss false (.tmp 23) (.const (.int .i64 0))⟩])
   (.cond (.tmp 24)
    (.seq (.ops [⟨some 4, none, .mov (.const (.int .i64 (-1)))⟩])
     (.ret))
    (.skip)))
  (.seq (.ops [⟨some 25, none, .mov (.tmp 1)⟩,
    ⟨some 4, none, .mov (.tmp 25)⟩])
  (.ret))))))))
def lf_laws_szEvent : LF := { np := 2, N := 26, body := c_laws_szEvent, res := [.tmp 4] }
theorem low_laws_szEvent : LowF Try.prog Try.f15 lf_laws_szEvent := LowF.mk' (by kernel_rfl) (by kernel_rfl) (by kernel_rfl) (by decide)

/-- laws.toEvent -/
def c_laws_toEvent : LC :=
  .seq (.ops [⟨some 1, none, .box 24 (.tmp 0)⟩,
    ⟨some 2, none, .alloc 27 (.agg #[.int .i64 0, .string ⟨#[]⟩, .slice none 0 0, .string ⟨#[]⟩, .int .i64 0])⟩])
  (.seq (.ops [⟨some 3, none, .alloc 27 (.agg #[.int .i64 0, .string ⟨#[]⟩, .slice none 0 0, .string ⟨#[]⟩, .int .i64 0])⟩])
  (.seq (.ops [⟨some 4, none, .fieldAddr 0 (.tmp 1)⟩,
    ⟨some 5, none, .load none (.tmp 4)⟩,
    ⟨some 6, none, .fieldAddr 0 (.tmp 3)⟩,
    ⟨none, none, .store 1 (.tmp 6) (.tmp 5)⟩])
  (.seq (.ops [⟨some 7, none, .fieldAddr 1 (.tmp 1)⟩,
    ⟨some 8, none, .load none (.tmp 7)⟩,
    ⟨some 9, none, .fieldAddr 1 (.tmp 3)⟩,
    ⟨none, none, .store 1 (.tmp 9) (.tmp 8)⟩])
  (.seq (.ops [⟨some 10, none, .fieldAddr 2 (.tmp 1)⟩,
    ⟨some 11, none, .load none (.tmp 10)⟩,
    ⟨some 12, none, .call 24 [.tmp 11]⟩,
    ⟨some 13, none, .fieldAddr 2 (.tmp 3)⟩,
    ⟨none, none, .store 1 (.tmp 13) (.tmp 12)⟩])
  (.seq (.ops [⟨some 14, none, .fieldAddr 3 (.tmp 1)⟩,
    ⟨some 15, none, .load none (.tmp 14)⟩,
    ⟨some 16, none, .fieldAddr 3 (.tmp 3)⟩,
    ⟨none, none, .store 1 (.tmp 16) (.tmp 15)⟩])
  (.seq (.ops [⟨some 17, none, .fieldAddr 4 (.tmp 1)⟩,
    ⟨some 18, none, .load none (.tmp 17)⟩,
    ⟨some 19, none, .fieldAddr 4 (.tmp 3)⟩,
    ⟨none, none, .store 1 (.tmp 19) (.tmp 18)⟩])
  (.seq (.ops [⟨some 20, none, .load (some 5) (.tmp 3)⟩,
    ⟨none, none, .store 5 (.tmp 2) (.tmp 20)⟩])
  (.ret))))))))
def lf_laws_toEvent : LF := { np := 1, N := 21, body := c_laws_toEvent, res := [.cell 2 (some 5)] }
theorem low_laws_toEvent : LowF Try.prog Try.f17 lf_laws_toEvent := LowF.mk' (by kernel_rfl) (by kernel_rfl) (by kernel_rfl) (by decide)

/-- laws.eqEvent -/
def c_laws_eqEvent : LC :=
  .seq (.ops [⟨some 2, none, .box 27 (.tmp 0)⟩,
    ⟨some 3, none, .box 27 (.tmp 1)⟩,
    ⟨some 4, none, .mov (.const (.bool false))⟩])
  (.seq (.seq (.ops [⟨some 5, none, .fieldAddr 0 (.tmp 2)⟩,
     ⟨some 6, none, .load none (.tmp 5)⟩,
     ⟨some 7, none, .fieldAddr 0 (.tmp 3)⟩,
     ⟨some 8, none, .load none (.tmp 7)⟩,
     ⟨some 9, none, .bin .neq false (.tmp 6) (.tmp 8)⟩])
   (.cond (.tmp 9)
    (.seq (.ops [⟨some 4, none, .mov (.const (.bool false))⟩])
     (.ret))
    (.skip)))
  (.seq (.seq (.ops [⟨some 10, none, .fieldAddr 1 (.tmp 2)⟩,
     ⟨some 11, none, .load none (.tmp 10)⟩,
     ⟨some 12, none, .fieldAddr 1 (.tmp 3)⟩,
     ⟨some 13, none, .load none (.tmp 12)⟩,
     ⟨some 14, none, .bin .neq false (.tmp 11) (.tmp 13)⟩])
   (.cond (.tmp 14)
    (.seq (.ops [⟨some 4, none, .mov (.const (.bool false))⟩])
     (.ret))
    (.skip)))
  (.seq (.seq (.ops [⟨some 15, none, .fieldAddr 2 (.tmp 2)⟩,
     ⟨some 16, none, .load none (.tmp 15)⟩,
     ⟨some 17, none, .fieldAddr 2 (.tmp 3)⟩,
     ⟨some 18, none, .load none (.tmp 17)⟩,
     ⟨some 19, none, .call 26 [.tmp 16, .tmp 18]⟩,
     ⟨some 20, none, .un .not (.tmp 19)⟩])
   (.cond (.tmp 20)
    (.seq (.ops [⟨some 4, none, .mov (.const (.bool false))⟩])
     (.ret))
    (.skip)))
  (.seq (.seq (.ops [⟨some 21, none, .fieldAddr 3 (.tmp 2)⟩,
     ⟨some 22, none, .load none (.tmp 21)⟩,
     ⟨some 23, none, .fieldAddr 3 (.tmp 3)⟩,
     ⟨some 24, none, .load none (.tmp 23)⟩,
     ⟨some 25, none, .bin .neq false (.tmp 22) (.tmp 24)⟩])
   (.cond (.tmp 25)
    (.seq (.ops [⟨some 4, none, .mov (.const (.bool false))⟩])
     (.ret))
    (.skip)))
  (.seq (.seq (.ops [⟨some 26, none, .fieldAddr 4 (.tmp 2)⟩,
     ⟨some 27, none, .load none (.tmp 26)⟩,
     ⟨some 28, none, .fieldAddr 4 (.tmp 3)⟩,
     ⟨some 29, none, .load none (.tmp 28)⟩,
     ⟨some 30, none, .bin .neq false (.tmp 27) (.tmp 29)⟩])
   (.cond (.tmp 30)
    (.seq (.ops [⟨some 4, none, .mov (.const (.bool false))⟩])
     (.ret))
    (.skip)))
  (.seq (.ops [⟨some 4, none, .mov (.const (.bool true))⟩])
  (.ret)))))))
def lf_laws_eqEvent : LF := { np := 2, N := 31, body := c_laws_eqEvent, res := [.tmp 4] }
theorem low_laws_eqEvent : LowF Try.prog Try.f19 lf_laws_eqEvent := LowF.mk' (by kernel_rfl) (by kernel_rfl) (by kernel_rfl) (by decide)

/-- laws.szRow -/
def c_laws_szRow : LC :=
  .seq (.ops [⟨some 2, none, .box 105 (.tmp 0)⟩,
    ⟨some 4, none, .mov (.const (.int .i64 0))⟩])
  (.seq (.ops [⟨some 5, none, .fieldAddr 0 (.tmp 2)⟩,
    ⟨some 6, none, .load none (.tmp 5)⟩,
    ⟨some 7, none, .mov (.tmp 1)⟩,
    ⟨some 8, none, .call 22 [.tmp 6, .tmp 7]⟩,
    ⟨some 1, none, .mov (.tmp 8)⟩])
  (.seq (.seq (.ops [⟨some 9, none, .mov (.tmp 1)⟩,
     ⟨some 10, none, .bin .lss false (.tmp 9) (.const (.int .i64 0))⟩])
   (.cond (.tmp 10)
    (.seq (.ops [⟨some 4, none, .mov (.const (.int .i64 (-1)))⟩])
     (.ret))
    (.skip)))
  (.seq (.ops [⟨some 11, none, .mov (.tmp 1)⟩,
    ⟨some 4, none, .mov (.tmp 11)⟩])
  (.ret))))
def lf_laws_szRow : LF := { np := 2, N := 12, body := c_laws_szRow, res := [.tmp 4] }
theorem low_laws_szRow : LowF Try.prog Try.f78 lf_laws_szRow := LowF.mk' (by kernel_rfl) (by kernel_rfl) (by kernel_rfl) (by decide)

/-- laws.toRow -/
def c_laws_toRow : LC :=
  .seq (.ops [⟨some 1, none, .box 105 (.tmp 0)⟩,
    ⟨some 2, none, .alloc 106 (.agg #[.slice none 0 0])⟩])
  (.seq (.ops [⟨some 3, none, .alloc 106 (.agg #[.slice none 0 0])⟩])
  (.seq (.ops [⟨some 4, none, .fieldAddr 0 (.tmp 1)⟩,
    ⟨some 5, none, .load none (.tmp 4)⟩,
    ⟨some 6, none, .call 24 [.tmp 5]⟩,
    ⟨some 7, none, .fieldAddr 0 (.tmp 3)⟩,
    ⟨none, none, .store 1 (.tmp 7) (.tmp 6)⟩])
  (.seq (.ops [⟨some 8, none, .load (some 1) (.tmp 3)⟩,
    ⟨none, none, .store 1 (.tmp 2) (.tmp 8)⟩])
  (.ret))))
def lf_laws_toRow : LF := { np := 1, N := 9, body := c_laws_toRow, res := [.cell 2 (some 1)] }
theorem low_laws_toRow : LowF Try.prog Try.f80 lf_laws_toRow := LowF.mk' (by kernel_rfl) (by kernel_rfl) (by kernel_rfl) (by decide)

/-- laws.eqRow -/
def c_laws_eqRow : LC :=
  .seq (.ops [⟨some 2, none, .box 106 (.tmp 0)⟩,
    ⟨some 3, none, .box 106 (.tmp 1)⟩,
    ⟨some 4, none, .mov (.const (.bool false))⟩])
  (.seq (.seq (.ops [⟨some 5, none, .fieldAddr 0 (.tmp 2)⟩,
     ⟨some 6, none, .load none (.tmp 5)⟩,
     ⟨some 7, none, .fieldAddr 0 (.tmp 3)⟩,
     ⟨some 8, none, .load none (.tmp 7)⟩,
     ⟨some 9, none, .call 26 [.tmp 6, .tmp 8]⟩,
     ⟨some 10, none, .un .not (.tmp 9)⟩])
   (.cond (.tmp 10)
    (.seq (.ops [⟨some 4, none, .mov (.const (.bool false))⟩])
     (.ret))
    (.skip)))
  (.seq (.ops [⟨some 4, none, .mov (.const (.bool true))⟩])
  (.ret)))
def lf_laws_eqRow : LF := { np := 2, N := 11, body := c_laws_eqRow, res := [.tmp 4] }
theorem low_laws_eqRow : LowF Try.prog Try.f84 lf_laws_eqRow := LowF.mk' (by kernel_rfl) (by kernel_rfl) (by kernel_rfl) (by decide)

/-- laws.szRowS -/
def c_laws_szRowS : LC :=
  .seq (.ops [⟨some 4, none, .mov (.const (.int .i64 0))⟩])
  (.seq (.ops [⟨some 6, none, .mov (.tmp 1)⟩,
    ⟨some 7, none, .mov (.tmp 0)⟩,
    ⟨some 8, none, .lenSl (.tmp 7)⟩,
    ⟨some 9, none, .bin .sub false (.tmp 6) (.tmp 8)⟩,
    ⟨some 1, none, .mov (.tmp 9)⟩])
  (.seq (.seq (.ops [⟨some 10, none, .mov (.tmp 1)⟩,
     ⟨some 11, none, .bin .lss false (.tmp 10) (.const (.int .i64 0))⟩])
   (.cond (.tmp 11)
    (.seq (.ops [⟨some 4, none, .mov (.const (.int .i64 (-1)))⟩])
     (.ret))
    (.skip)))
  (.seq (.seq (.ops [⟨some 5, none, .mov (.const (.int .i64 0))⟩])
   (.block 0 (.loop (.seq (.seq (.ops [⟨some 12, none, .mov (.tmp 5)⟩,
        ⟨some 13, none, .mov (.tmp 0)⟩,
        ⟨some 14, none, .lenSl (.tmp 13)⟩,
        ⟨some 15, none, .bin .lss false (.tmp 12) (.tmp 14)⟩])
      (.cond (.tmp 15)
       (.skip)
       (.exit 0)))
     (.seq (.block 1 (.seq (.ops [⟨some 18, none, .mov (.tmp 0)⟩,
         ⟨some 19, none, .mov (.tmp 5)⟩,
         ⟨some 20, none, .indexAddr 1 (.tmp 18) (.tmp 19)⟩,
         ⟨some 21, none, .load (some 1) (.tmp 20)⟩,
         ⟨some 22, none, .mov (.tmp 1)⟩,
         ⟨some 23, none, .call 78 [.tmp 21, .tmp 22]⟩,
         ⟨some 1, none, .mov (.tmp 23)⟩])
       (.seq (.ops [⟨some 24, none, .mov (.tmp 1)⟩,
         ⟨some 25, none, .bin .lss false (.tmp 24) (.const (.int .i64 0))⟩])
       (.cond (.tmp 25)
        (.seq (.ops [⟨some 4, none, .mov (.const (.int .i64 (-1)))⟩])
         (.ret))
        (.skip)))))
     (.ops [⟨some 16, none, .mov (.tmp 5)⟩,
      ⟨some 17, none, .bin .add false (.tmp 16) (.const (.int .i64 1))⟩,
      ⟨some 5, none, .mov (.tmp 17)⟩]))))))
  (.seq (.ops [⟨some 26, none, .mov (.tmp 1)⟩,
    ⟨some 4, none, .mov (.tmp 26)⟩])
  (.ret)))))
def lf_laws_szRowS : LF := { np := 2, N := 27, body := c_laws_szRowS, res := [.tmp 4] }
theorem low_laws_szRowS : LowF Try.prog Try.f27 lf_laws_szRowS := LowF.mk' (by kernel_rfl) (by kernel_rfl) (by kernel_rfl) (by decide)

/-- laws.toRowS -/
def c_laws_toRowS : LC :=
  .seq (.ops [⟨some 2, none, .mov (.const (.slice none 0 0))⟩])
  (.seq (.ops [⟨some 5, none, .mov (.tmp 0)⟩,
    ⟨some 6, none, .lenSl (.tmp 5)⟩,
    ⟨some 7, none, .mkSlice 106 1 24 (.agg #[.slice none 0 0]) (.tmp 6) (.tmp 6)⟩,
    ⟨some 3, none, .mov (.tmp 7)⟩])
  (.seq (.seq (.ops [⟨some 4, none, .mov (.const (.int .i64 0))⟩])
   (.block 0 (.loop (.seq (.seq (.ops [⟨some 8, none, .mov (.tmp 4)⟩,
        ⟨some 9, none, .mov (.tmp 0)⟩,
        ⟨some 10, none, .lenSl (.tmp 9)⟩,
        ⟨some 11, none, .bin .lss false (.tmp 8) (.tmp 10)⟩])
      (.cond (.tmp 11)
       (.skip)
       (.exit 0)))
     (.seq (.block 1 (.ops [⟨some 14, none, .mov (.tmp 3)⟩,
        ⟨some 15, none, .mov (.tmp 4)⟩,
        ⟨some 16, none, .mov (.tmp 0)⟩,
        ⟨some 17, none, .mov (.tmp 4)⟩,
        ⟨some 18, none, .indexAddr 1 (.tmp 16) (.tmp 17)⟩,
        ⟨some 19, none, .load (some 1) (.tmp 18)⟩,
        ⟨some 20, none, .call 80 [.tmp 19]⟩,
        ⟨some 21, none, .indexAddr 1 (.tmp 14) (.tmp 15)⟩,
        ⟨none, none, .store 1 (.tmp 21) (.tmp 20)⟩]))
     (.ops [⟨some 12, none, .mov (.tmp 4)⟩,
      ⟨some 13, none, .bin .add false (.tmp 12) (.const (.int .i64 1))⟩,
      ⟨some 4, none, .mov (.tmp 13)⟩]))))))
  (.seq (.ops [⟨some 22, none, .mov (.tmp 3)⟩,
    ⟨some 2, none, .mov (.tmp 22)⟩])
  (.ret))))
def lf_laws_toRowS : LF := { np := 1, N := 23, body := c_laws_toRowS, res := [.tmp 2] }
theorem low_laws_toRowS : LowF Try.prog Try.f29 lf_laws_toRowS := LowF.mk' (by kernel_rfl) (by kernel_rfl) (by kernel_rfl) (by decide)

/-- laws.eqRowS -/
def c_laws_eqRowS : LC :=
  .seq (.ops [⟨some 4, none, .mov (.const (.bool false))⟩])
  (.seq (.seq (.ops [⟨some 6, none, .mov (.tmp 0)⟩,
     ⟨some 7, none, .lenSl (.tmp 6)⟩,
     ⟨some 8, none, .mov (.tmp 1)⟩,
     ⟨some 9, none, .lenSl (.tmp 8)⟩,
     ⟨some 10, none, .bin .neq false (.tmp 7) (.tmp 9)⟩])
   (.cond (.tmp 10)
    (.seq (.ops [⟨some 4, none, .mov (.const (.bool false))⟩])
     (.ret))
    (.skip)))
  (.seq (.seq (.ops [⟨some 5, none, .mov (.const (.int .i64 0))⟩])
   (.block 0 (.loop (.seq (.seq (.ops [⟨some 11, none, .mov (.tmp 5)⟩,
        ⟨some 12, none, .mov (.tmp 0)⟩,
        ⟨some 13, none, .lenSl (.tmp 12)⟩,
        ⟨some 14, none, .bin .lss false (.tmp 11) (.tmp 13)⟩])
      (.cond (.tmp 14)
       (.skip)
       (.exit 0)))
     (.seq (.block 1 (.seq (.dops [⟨some 17, none, .mov (.tmp 0)⟩,
         ⟨some 18, none, .mov (.tmp 5)⟩,
         ⟨some 19, none, .indexAddr 1 (.tmp 17) (.tmp 18)⟩,
         ⟨some 20, none, .load (some 1) (.tmp 19)⟩,
         ⟨some 21, none, .mov (.tmp 1)⟩,
         ⟨some 22, none, .mov (.tmp 5)⟩,
         ⟨some 23, none, .indexAddr 1 (.tmp 21) (.tmp 22)⟩,
         ⟨some 24, none, .load (some 1) (.tmp 23)⟩,
         ⟨some 25, none, .call 84 [.tmp 20, .tmp 24]⟩,
         ⟨some 26, none, .un .not (.tmp 25)⟩])
       (.cond (.tmp 26)
        (.seq (.ops [⟨some 4, none, .mov (.const (.bool false))⟩])
         (.ret))
        (.skip))))
     (.ops [⟨some 15, none, .mov (.tmp 5)⟩,
      ⟨some 16, none, .bin .add false (.tmp 15) (.const (.int .i64 1))⟩,
      ⟨some 5, none, .mov (.tmp 16)⟩]))))))
  (.seq (.ops [⟨some 4, none, .mov (.const (.bool true))⟩])
  (.ret))))
def lf_laws_eqRowS : LF := { np := 2, N := 27, body := c_laws_eqRowS, res := [.tmp 4] }
theorem low_laws_eqRowS : LowF Try.prog Try.f31 lf_laws_eqRowS := LowF.mk' (by kernel_rfl) (by kernel_rfl) (by kernel_rfl) (by decide)

/-- laws.szTrigger -/
def c_laws_szTrigger : LC :=
  .seq (.ops [⟨some 2, none, .box 42 (.tmp 0)⟩,
    ⟨some 4, none, .mov (.const (.int .i64 0))⟩])
  (.seq (.ops [⟨some 5, none, .mov (.tmp 1)⟩,
    ⟨some 6, none, .fieldAddr 1 (.tmp 2)⟩,
    ⟨some 7, none, .load none (.tmp 6)⟩,
    ⟨some 8, none, .lenStr (.tmp 7)⟩,
    ⟨some 9, none, .bin .sub false (.tmp 5) (.tmp 8)⟩,
    ⟨some 1, none, .mov (.tmp 9)⟩])
  (.seq (.seq (.ops [⟨some 10, none, .mov (.tmp 1)⟩,
     ⟨some 11, none, .bin .lss false (.tmp 10) (.const (.int .i64 0))⟩])
   (.cond (.tmp 11)
    (.seq (.ops [⟨some 4, none, .mov (.const (.int .i64 (-1)))⟩])
     (.ret))
    (.skip)))
  (.seq (.ops [⟨some 12, none, .fieldAddr 2 (.tmp 2)⟩,
    ⟨some 13, none, .load none (.tmp 12)⟩,
    ⟨some 14, none, .mov (.tmp 1)⟩,
    ⟨some 15, none, .call 22 [.tmp 13, .tmp 14]⟩,
    ⟨some 1, none, .mov (.tmp 15)⟩])
  (.seq (.seq (.ops [⟨some 16, none, .mov (.tmp 1)⟩,
     ⟨some 17, none, .bin .lss false (.tmp 16) (.const (.int .i64 0))⟩])
   (.cond (.tmp 17)
    (.seq (.ops [⟨some 4, none, .mov (.const (.int .i64 (-1)))⟩])
     (.ret))
    (.skip)))
  (.seq (.ops [⟨some 18, none, .mov (.tmp 1)⟩,
    ⟨some 19, none, .fieldAddr 5 (.tmp 2)⟩,
    ⟨some 20, none, .load none (.tmp 19)⟩,
    ⟨some 21, none, .lenStr (.tmp 20)⟩,
    ⟨some 22, none, .bin .sub false (.tmp 18) (.tmp 21)⟩,
    ⟨some 1, none, .mov (.tmp 22)⟩])
  (.seq (.seq (.ops [⟨some 23, none, .mov (.tmp 1)⟩,
     ⟨some 24, none, .bin .lss false (.tmp 23) (.const (.int .i64 0))⟩])
   (.cond (.tmp 24)
    (.seq (.ops [⟨some 4, none, .mov (.const (.int .i64 (-1)))⟩])
     (.ret))
    (.skip)))
  (.seq (.ops [⟨some 25, none, .mov (.tmp 1)⟩,
    ⟨some 26, none, .fieldAddr 6 (.tmp 2)⟩,
    ⟨some 27, none, .load none (.tmp 26)⟩,
    ⟨some 28, none, .lenStr (.tmp 27)⟩,
    ⟨some 29, none, .bin .sub false (.tmp 25) (.tmp 28)⟩,
    ⟨some 1, none, .mov (.tmp 29)⟩])
  (.seq (.seq (.ops [⟨some 30, none, .mov (.tmp 1)⟩,
     ⟨some 31, none, .bin .lss false (.tmp 30) (.const (.int .i64 0))⟩])
   (.cond (.tmp 31)
    (.seq (.ops [⟨some 4, none, .mov (.const (.int .i64 (-1)))⟩])
     (.ret))
    (.skip)))
  (.seq (.ops [⟨some 32, none, .mov (.tmp 1)⟩,
    ⟨some 4, none, .mov (.tmp 32)⟩])
  (.ret))))))))))
def lf_laws_szTrigger : LF := { np := 2, N := 33, body := c_laws_szTrigger, res := [.tmp 4] }
theorem low_laws_szTrigger : LowF Try.prog Try.f32 lf_laws_szTrigger := LowF.mk' (by kernel_rfl) (by kernel_rfl) (by kernel_rfl) (by decide)

/-- laws.toTrigger -/
def c_laws_toTrigger : LC :=
  .seq (.ops [⟨some 1, none, .box 42 (.tmp 0)⟩,
    ⟨some 2, none, .alloc 45 (.agg #[.int .i64 0, .string ⟨#[]⟩, .slice none 0 0, .bool false, .bool false, .string ⟨#[]⟩, .string ⟨#[]⟩])⟩])
  (.seq (.ops [⟨some 3, none, .alloc 45 (.agg #[.int .i64 0, .string ⟨#[]⟩, .slice none 0 0, .bool false, .bool false, .string ⟨#[]⟩, .string ⟨#[]⟩])⟩])
  (.seq (.ops [⟨some 4, none, .fieldAddr 0 (.tmp 1)⟩,
    ⟨some 5, none, .load none (.tmp 4)⟩,
    ⟨some 6, none, .fieldAddr 0 (.tmp 3)⟩,
    ⟨none, none, .store 1 (.tmp 6) (.tmp 5)⟩])
  (.seq (.ops [⟨some 7, none, .fieldAddr 1 (.tmp 1)⟩,
    ⟨some 8, none, .load none (.tmp 7)⟩,
    ⟨some 9, none, .fieldAddr 1 (.tmp 3)⟩,
    ⟨none, none, .store 1 (.tmp 9) (.tmp 8)⟩])
  (.seq (.ops [⟨some 10, none, .fieldAddr 2 (.tmp 1)⟩,
    ⟨some 11, none, .load none (.tmp 10)⟩,
    ⟨some 12, none, .call 24 [.tmp 11]⟩,
    ⟨some 13, none, .fieldAddr 2 (.tmp 3)⟩,
    ⟨none, none, .store 1 (.tmp 13) (.tmp 12)⟩])
  (.seq (.ops [⟨some 14, none, .fieldAddr 3 (.tmp 1)⟩,
    ⟨some 15, none, .load none (.tmp 14)⟩,
    ⟨some 16, none, .fieldAddr 3 (.tmp 3)⟩,
    ⟨none, none, .store 1 (.tmp 16) (.tmp 15)⟩])
  (.seq (.ops [⟨some 17, none, .fieldAddr 4 (.tmp 1)⟩,
    ⟨some 18, none, .load none (.tmp 17)⟩,
    ⟨some 19, none, .fieldAddr 4 (.tmp 3)⟩,
    ⟨none, none, .store 1 (.tmp 19) (.tmp 18)⟩])
  (.seq (.ops [⟨some 20, none, .fieldAddr 5 (.tmp 1)⟩,
    ⟨some 21, none, .load none (.tmp 20)⟩,
    ⟨some 22, none, .fieldAddr 5 (.tmp 3)⟩,
    ⟨none, none, .store 1 (.tmp 22) (.tmp 21)⟩])
  (.seq (.ops [⟨some 23, none, .fieldAddr 6 (.tmp 1)⟩,
    ⟨some 24, none, .load none (.tmp 23)⟩,
    ⟨some 25, none, .fieldAddr 6 (.tmp 3)⟩,
    ⟨none, none, .store 1 (.tmp 25) (.tmp 24)⟩])
  (.seq (.ops [⟨some 26, none, .load (some 7) (.tmp 3)⟩,
    ⟨none, none, .store 7 (.tmp 2) (.tmp 26)⟩])
  (.ret))))))))))
def lf_laws_toTrigger : LF := { np := 1, N := 27, body := c_laws_toTrigger, res := [.cell 2 (some 7)] }
theorem low_laws_toTrigger : LowF Try.prog Try.f34 lf_laws_toTrigger := LowF.mk' (by kernel_rfl) (by kernel_rfl) (by kernel_rfl) (by decide)

/-- laws.eqTrigger -/
def c_laws_eqTrigger : LC :=
  .seq (.ops [⟨some 2, none, .box 45 (.tmp 0)⟩,
    ⟨some 3, none, .box 45 (.tmp 1)⟩,
    ⟨some 4, none, .mov (.const (.bool false))⟩])
  (.seq (.seq (.ops [⟨some 5, none, .fieldAddr 0 (.tmp 2)⟩,
     ⟨some 6, none, .load none (.tmp 5)⟩,
     ⟨some 7, none, .fieldAddr 0 (.tmp 3)⟩,
     ⟨some 8, none, .load none (.tmp 7)⟩,
     ⟨some 9, none, .bin .neq false (.tmp 6) (.tmp 8)⟩])
   (.cond (.tmp 9)
    (.seq (.ops [⟨some 4, none, .mov (.const (.bool false))⟩])
     (.ret))
    (.skip)))
  (.seq (.seq (.ops [⟨some 10, none, .fieldAddr 1 (.tmp 2)⟩,
     ⟨some 11, none, .load none (.tmp 10)⟩,
     ⟨some 12, none, .fieldAddr 1 (.tmp 3)⟩,
     ⟨some 13, none, .load none (.tmp 12)⟩,
     ⟨some 14, none, .bin .neq false (.tmp 11) (.tmp 13)⟩])
   (.cond (.tmp 14)
    (.seq (.ops [⟨some 4, none, .mov (.const (.bool false))⟩])
     (.ret))
    (.skip)))
  (.seq (.seq (.ops [⟨some 15, none, .fieldAddr 2 (.tmp 2)⟩,
     ⟨some 16, none, .load none (.tmp 15)⟩,
     ⟨some 17, none, .fieldAddr 2 (.tmp 3)⟩,
     ⟨some 18, none, .load none (.tmp 17)⟩,
     ⟨some 19, none, .call 26 [.tmp 16, .tmp 18]⟩,
     ⟨some 20, none, .un .not (.tmp 19)⟩])
   (.cond (.tmp 20)
    (.seq (.ops [⟨some 4, none, .mov (.const (.bool false))⟩])
     (.ret))
    (.skip)))
  (.seq (.seq (.ops [⟨some 21, none, .fieldAddr 3 (.tmp 2)⟩,
     ⟨some 22, none, .load none (.tmp 21)⟩,
     ⟨some 23, none, .fieldAddr 3 (.tmp 3)⟩,
     ⟨some 24, none, .load none (.tmp 23)⟩,
     ⟨some 25, none, .bin .neq true (.tmp 22) (.tmp 24)⟩])
   (.cond (.tmp 25)
    (.seq (.ops [⟨some 4, none, .mov (.const (.bool false))⟩])
     (.ret))
    (.skip)))
  (.seq (.seq (.ops [⟨some 26, none, .fieldAddr 4 (.tmp 2)⟩,
     ⟨some 27, none, .load none (.tmp 26)⟩,
     ⟨some 28, none, .fieldAddr 4 (.tmp 3)⟩,
     ⟨some 29, none, .load none (.tmp 28)⟩,
     ⟨some 30, none, .bin .neq true (.tmp 27) (.tmp 29)⟩])
   (.cond (.tmp 30)
    (.seq (.ops [⟨some 4, none, .mov (.const (.bool false))⟩])
     (.ret))
    (.skip)))
  (.seq (.seq (.ops [⟨some 31, none, .fieldAddr 5 (.tmp 2)⟩,
     ⟨some 32, none, .load none (.tmp 31)⟩,
     ⟨some 33, none, .fieldAddr 5 (.tmp 3)⟩,
     ⟨some 34, none, .load none (.tmp 33)⟩,
     ⟨some 35, none, .bin .neq false (.tmp 32) (.tmp 34)⟩])
   (.cond (.tmp 35)
    (.seq (.ops [⟨some 4, none, .mov (.const (.bool false))⟩])
     (.ret))
    (.skip)))
  (.seq (.seq (.ops [⟨some 36, none, .fieldAddr 6 (.tmp 2)⟩,
     ⟨some 37, none, .load none (.tmp 36)⟩,
     ⟨some 38, none, .fieldAddr 6 (.tmp 3)⟩,
     ⟨some 39, none, .load none (.tmp 38)⟩,
     ⟨some 40, none, .bin .neq false (.tmp 37) (.tmp 39)⟩])
   (.cond (.tmp 40)
    (.seq (.ops [⟨some 4, none, .mov (.const (.bool false))⟩])
     (.ret))
    (.skip)))
  (.seq (.ops [⟨some 4, none, .mov (.const (.bool true))⟩])
  (.ret)))))))))
def lf_laws_eqTrigger : LF := { np := 2, N := 41, body := c_laws_eqTrigger, res := [.tmp 4] }
theorem low_laws_eqTrigger : LowF Try.prog Try.f36 lf_laws_eqTrigger := LowF.mk' (by kernel_rfl) (by kernel_rfl) (by kernel_rfl) (by decide)

/-- laws.szTriggerS -/
def c_laws_szTriggerS : LC :=
  .seq (.ops [⟨some 4, none, .mov (.const (.int .i64 0))⟩])
  (.seq (.ops [⟨some 6, none, .mov (.tmp 1)⟩,
    ⟨some 7, none, .mov (.tmp 0)⟩,
    ⟨some 8, none, .lenSl (.tmp 7)⟩,
    ⟨some 9, none, .bin .sub false (.tmp 6) (.tmp 8)⟩,
    ⟨some 1, none, .mov (.tmp 9)⟩])
  (.seq (.seq (.ops [⟨some 10, none, .mov (.tmp 1)⟩,
     ⟨some 11, none, .bin .lss false (.tmp 10) (.const (.int .i64 0))⟩])
   (.cond (.tmp 11)
    (.seq (.ops [⟨some 4, none, .mov (.const (.int .i64 (-1)))⟩])
     (.ret))
    (.skip)))
  (.seq (.seq (.ops [⟨some 5, none, .mov (.const (.int .i64 0))⟩])
   (.block 0 (.loop (.seq (.seq (.ops [⟨some 12, none, .mov (.tmp 5)⟩,
        ⟨some 13, none, .mov (.tmp 0)⟩,
        ⟨some 14, none, .lenSl (.tmp 13)⟩,
        ⟨some 15, none, .bin .lss false (.tmp 12) (.tmp 14)⟩])
      (.cond (.tmp 15)
       (.skip)
       (.exit 0)))
     (.seq (.block 1 (.seq (.ops [⟨some 18, none, .mov (.tmp 0)⟩,
         ⟨some 19, none, .mov (.tmp 5)⟩,
         ⟨some 20, none, .indexAddr 7 (.tmp 18) (.tmp 19)⟩,
         ⟨some 21, none, .load (some 7) (.tmp 20)⟩,
         ⟨some 22, none, .mov (.tmp 1)⟩,
         ⟨some 23, none, .call 32 [.tmp 21, .tmp 22]⟩,
         ⟨some 1, none, .mov (.tmp 23)⟩])
       (.seq (.ops [⟨some 24, none, .mov (.tmp 1)⟩,
         ⟨some 25, none, .bin .lss false (.tmp 24) (.const (.int .i64 0))⟩])
       (.cond (.tmp 25)
        (.seq (.ops [⟨some 4, none, .mov (.const (.int .i64 (-1)))⟩])
         (.ret))
        (.skip)))))
     (.ops [⟨some 16, none, .mov (.tmp 5)⟩,
      ⟨some 17, none, .bin .add false (.tmp 16) (.const (.int .i64 1))⟩,
      ⟨some 5, none, .mov (.tmp 17)⟩]))))))
  (.seq (.ops [⟨some 26, none, .mov (.tmp 1)⟩,
    ⟨some 4, none, .mov (.tmp 26)⟩])
  (.ret)))))
def lf_laws_szTriggerS : LF := { np := 2, N := 27, body := c_laws_szTriggerS, res := [.tmp 4] }
theorem low_laws_szTriggerS : LowF Try.prog Try.f37 lf_laws_szTriggerS := LowF.mk' (by kernel_rfl) (by kernel_rfl) (by kernel_rfl) (by decide)

/-- laws.toTriggerS -/
def c_laws_toTriggerS : LC :=
  .seq (.ops [⟨some 2, none, .mov (.const (.slice none 0 0))⟩])
  (.seq (.ops [⟨some 5, none, .mov (.tmp 0)⟩,
    ⟨some 6, none, .lenSl (.tmp 5)⟩,
    ⟨some 7, none, .mkSlice 45 7 88 (.agg #[.int .i64 0, .string ⟨#[]⟩, .slice none 0 0, .bool false, .bool false, .string ⟨#[]⟩, .string ⟨#[]⟩]) (.tmp 6) (.tmp 6)⟩,
    ⟨some 3, none, .mov (.tmp 7)⟩])
  (.seq (.seq (.ops [⟨some 4, none, .mov (.const (.int .i64 0))⟩])
   (.block 0 (.loop (.seq (.seq (.ops [⟨some 8, none, .mov (.tmp 4)⟩,
        ⟨some 9, none, .mov (.tmp 0)⟩,
        ⟨some 10, none, .lenSl (.tmp 9)⟩,
        ⟨some 11, none, .bin .lss false (.tmp 8) (.tmp 10)⟩])
      (.cond (.tmp 11)
       (.skip)
       (.exit 0)))
     (.seq (.block 1 (.ops [⟨some 14, none, .mov (.tmp 3)⟩,
        ⟨some 15, none, .mov (.tmp 4)⟩,
        ⟨some 16, none, .mov (.tmp 0)⟩,
        ⟨some 17, none, .mov (.tmp 4)⟩,
        ⟨some 18, none, .indexAddr 7 (.tmp 16) (.tmp 17)⟩,
        ⟨some 19, none, .load (some 7) (.tmp 18)⟩,
        ⟨some 20, none, .call 34 [.tmp 19]⟩,
        ⟨some 21, none, .indexAddr 7 (.tmp 14) (.tmp 15)⟩,
        ⟨none, none, .store 7 (.tmp 21) (.tmp 20)⟩]))
     (.ops [⟨some 12, none, .mov (.tmp 4)⟩,
      ⟨some 13, none, .bin .add false (.tmp 12) (.const (.int .i64 1))⟩,
      ⟨some 4, none, .mov (.tmp 13)⟩]))))))
  (.seq (.ops [⟨some 22, none, .mov (.tmp 3)⟩,
    ⟨some 2, none, .mov (.tmp 22)⟩])
  (.ret))))
def lf_laws_toTriggerS : LF := { np := 1, N := 23, body := c_laws_toTriggerS, res := [.tmp 2] }
theorem low_laws_toTriggerS : LowF Try.prog Try.f39 lf_laws_toTriggerS := LowF.mk' (by kernel_rfl) (by kernel_rfl) (by kernel_rfl) (by decide)

/-- laws.eqTriggerS -/
def c_laws_eqTriggerS : LC :=
  .seq (.ops [⟨some 4, none, .mov (.const (.bool false))⟩])
  (.seq (.seq (.ops [⟨some 6, none, .mov (.tmp 0)⟩,
     ⟨some 7, none, .lenSl (.tmp 6)⟩,
     ⟨some 8, none, .mov (.tmp 1)⟩,
     ⟨some 9, none, .lenSl (.tmp 8)⟩,
     ⟨some 10, none, .bin .neq false (.tmp 7) (.tmp 9)⟩])
   (.cond (.tmp 10)
    (.seq (.ops [⟨some 4, none, .mov (.const (.bool false))⟩])
     (.ret))
    (.skip)))
  (.seq (.seq (.ops [⟨some 5, none, .mov (.const (.int .i64 0))⟩])
   (.block 0 (.loop (.seq (.seq (.ops [⟨some 11, none, .mov (.tmp 5)⟩,
        ⟨some 12, none, .mov (.tmp 0)⟩,
        ⟨some 13, none, .lenSl (.tmp 12)⟩,
        ⟨some 14, none, .bin .lss false (.tmp 11) (.tmp 13)⟩])
      (.cond (.tmp 14)
       (.skip)
       (.exit 0)))
     (.seq (.block 1 (.seq (.dops [⟨some 17, none, .mov (.tmp 0)⟩,
         ⟨some 18, none, .mov (.tmp 5)⟩,
         ⟨some 19, none, .indexAddr 7 (.tmp 17) (.tmp 18)⟩,
         ⟨some 20, none, .load (some 7) (.tmp 19)⟩,
         ⟨some 21, none, .mov (.tmp 1)⟩,
         ⟨some 22, none, .mov (.tmp 5)⟩,
         ⟨some 23, none, .indexAddr 7 (.tmp 21) (.tmp 22)⟩,
         ⟨some 24, none, .load (some 7) (.tmp 23)⟩,
         ⟨some 25, none, .call 36 [.tmp 20, .tmp 24]⟩,
         ⟨some 26, none, .un .not (.tmp 25)⟩])
       (.cond (.tmp 26)
        (.seq (.ops [⟨some 4, none, .mov (.const (.bool false))⟩])
         (.ret))
        (.skip))))
     (.ops [⟨some 15, none, .mov (.tmp 5)⟩,
      ⟨some 16, none, .bin .add false (.tmp 15) (.const (.int .i64 1))⟩,
      ⟨some 5, none, .mov (.tmp 16)⟩]))))))
  (.seq (.ops [⟨some 4, none, .mov (.const (.bool true))⟩])
  (.ret))))
def lf_laws_eqTriggerS : LF := { np := 2, N := 27, body := c_laws_eqTriggerS, res := [.tmp 4] }
theorem low_laws_eqTriggerS : LowF Try.prog Try.f41 lf_laws_eqTriggerS := LowF.mk' (by kernel_rfl) (by kernel_rfl) (by kernel_rfl) (by decide)

/-- laws.szEventS -/
def c_laws_szEventS : LC :=
  .seq (.ops [⟨some 4, none, .mov (.const (.int .i64 0))⟩])
  (.seq (.ops [⟨some 6, none, .mov (.tmp 1)⟩,
    ⟨some 7, none, .mov (.tmp 0)⟩,
    ⟨some 8, none, .lenSl (.tmp 7)⟩,
    ⟨some 9, none, .bin .sub false (.tmp 6) (.tmp 8)⟩,
    ⟨some 1, none, .mov (.tmp 9)⟩])
  (.seq (.seq (.ops [⟨some 10, none, .mov (.tmp 1)⟩,
     ⟨some 11, none, .bin .lss false (.tmp 10) (.const (.int .i64 0))⟩])
   (.cond (.tmp 11)
    (.seq (.ops [⟨some 4, none, .mov (.const (.int .i64 (-1)))⟩])
     (.ret))
    (.skip)))
  (.seq (.seq (.ops [⟨some 5, none, .mov (.const (.int .i64 0))⟩])
   (.block 0 (.loop (.seq (.seq (.ops [⟨some 12, none, .mov (.tmp 5)⟩,
        ⟨some 13, none, .mov (.tmp 0)⟩,
        ⟨some 14, none, .lenSl (.tmp 13)⟩,
        ⟨some 15, none, .bin .lss false (.tmp 12) (.tmp 14)⟩])
      (.cond (.tmp 15)
       (.skip)
       (.exit 0)))
     (.seq (.block 1 (.seq (.ops [⟨some 18, none, .mov (.tmp 0)⟩,
         ⟨some 19, none, .mov (.tmp 5)⟩,
         ⟨some 20, none, .indexAddr 5 (.tmp 18) (.tmp 19)⟩,
         ⟨some 21, none, .load (some 5) (.tmp 20)⟩,
         ⟨some 22, none, .mov (.tmp 1)⟩,
         ⟨some 23, none, .call 15 [.tmp 21, .tmp 22]⟩,
         ⟨some 1, none, .mov (.tmp 23)⟩])
       (.seq (.ops [⟨some 24, none, .mov (.tmp 1)⟩,
         ⟨some 25, none, .bin .lss false (.tmp 24) (.const (.int .i64 0))⟩])
       (.cond (.tmp 25)
        (.seq (.ops [⟨some 4, none, .mov (.const (.int .i64 (-1)))⟩])
         (.ret))
        (.skip)))))
     (.ops [⟨some 16, none, .mov (.tmp 5)⟩,
      ⟨some 17, none, .bin .add false (.tmp 16) (.const (.int .i64 1))⟩,
      ⟨some 5, none, .mov (.tmp 17)⟩]))))))
  (.seq (.ops [⟨some 26, none, .mov (.tmp 1)⟩,
    ⟨some 4, none, .mov (.tmp 26)⟩])
  (.ret)))))
def lf_laws_szEventS : LF := { np := 2, N := 27, body := c_laws_szEventS, res := [.tmp 4] }
theorem low_laws_szEventS : LowF Try.prog Try.f95 lf_laws_szEventS := LowF.mk' (by kernel_rfl) (by kernel_rfl) (by kernel_rfl) (by decide)

/-- laws.toEventS -/
def c_laws_toEventS : LC :=
  .seq (.ops [⟨some 2, none, .mov (.const (.slice none 0 0))⟩])
  (.seq (.ops [⟨some 5, none, .mov (.tmp 0)⟩,
    ⟨some 6, none, .lenSl (.tmp 5)⟩,
    ⟨some 7, none, .mkSlice 27 5 72 (.agg #[.int .i64 0, .string ⟨#[]⟩, .slice none 0 0, .string ⟨#[]⟩, .int .i64 0]) (.tmp 6) (.tmp 6)⟩,
    ⟨some 3, none, .mov (.tmp 7)⟩])
  (.seq (.seq (.ops [⟨some 4, none, .mov (.const (.int .i64 0))⟩])
   (.block 0 (.loop (.seq (.seq (.ops [⟨some 8, none, .mov (.tmp 4)⟩,
        ⟨some 9, none, .mov (.tmp 0)⟩,
        ⟨some 10, none, .lenSl (.tmp 9)⟩,
        ⟨some 11, none, .bin .lss false (.tmp 8) (.tmp 10)⟩])
      (.cond (.tmp 11)
       (.skip)
       (.exit 0)))
     (.seq (.block 1 (.ops [⟨some 14, none, .mov (.tmp 3)⟩,
        ⟨some 15, none, .mov (.tmp 4)⟩,
        ⟨some 16, none, .mov (.tmp 0)⟩,
        ⟨some 17, none, .mov (.tmp 4)⟩,
        ⟨some 18, none, .indexAddr 5 (.tmp 16) (.tmp 17)⟩,
        ⟨some 19, none, .load (some 5) (.tmp 18)⟩,
        ⟨some 20, none, .call 17 [.tmp 19]⟩,
        ⟨some 21, none, .indexAddr 5 (.tmp 14) (.tmp 15)⟩,
        ⟨none, none, .store 5 (.tmp 21) (.tmp 20)⟩]))
     (.ops [⟨some 12, none, .mov (.tmp 4)⟩,
      ⟨some 13, none, .bin .add false (.tmp 12) (.const (.int .i64 1))⟩,
      ⟨some 4, none, .mov (.tmp 13)⟩]))))))
  (.seq (.ops [⟨some 22, none, .mov (.tmp 3)⟩,
    ⟨some 2, none, .mov (.tmp 22)⟩])
  (.ret))))
def lf_laws_toEventS : LF := { np := 1, N := 23, body := c_laws_toEventS, res := [.tmp 2] }
theorem low_laws_toEventS : LowF Try.prog Try.f97 lf_laws_toEventS := LowF.mk' (by kernel_rfl) (by kernel_rfl) (by kernel_rfl) (by decide)

/-- laws.eqEventS -/
def c_laws_eqEventS : LC :=
  .seq (.ops [⟨some 4, none, .mov (.const (.bool false))⟩])
  (.seq (.seq (.ops [⟨some 6, none, .mov (.tmp 0)⟩,
     ⟨some 7, none, .lenSl (.tmp 6)⟩,
     ⟨some 8, none, .mov (.tmp 1)⟩,
     ⟨some 9, none, .lenSl (.tmp 8)⟩,
     ⟨some 10, none, .bin .neq false (.tmp 7) (.tmp 9)⟩])
   (.cond (.tmp 10)
    (.seq (.ops [⟨some 4, none, .mov (.const (.bool false))⟩])
     (.ret))
    (.skip)))
  (.seq (.seq (.ops [⟨some 5, none, .mov (.const (.int .i64 0))⟩])
   (.block 0 (.loop (.seq (.seq (.ops [⟨some 11, none, .mov (.tmp 5)⟩,
        ⟨some 12, none, .mov (.tmp 0)⟩,
        ⟨some 13, none, .lenSl (.tmp 12)⟩,
        ⟨some 14, none, .bin .lss false (.tmp 11) (.tmp 13)⟩])
      (.cond (.tmp 14)
       (.skip)
       (.exit 0)))
     (.seq (.block 1 (.seq (.dops [⟨some 17, none, .mov (.tmp 0)⟩,
         ⟨some 18, none, .mov (.tmp 5)⟩,
         ⟨some 19, none, .indexAddr 5 (.tmp 17) (.tmp 18)⟩,
         ⟨some 20, none, .load (some 5) (.tmp 19)⟩,
         ⟨some 21, none, .mov (.tmp 1)⟩,
         ⟨some 22, none, .mov (.tmp 5)⟩,
         ⟨some 23, none, .indexAddr 5 (.tmp 21) (.tmp 22)⟩,
         ⟨some 24, none, .load (some 5) (.tmp 23)⟩,
         ⟨some 25, none, .call 19 [.tmp 20, .tmp 24]⟩,
         ⟨some 26, none, .un .not (.tmp 25)⟩])
       (.cond (.tmp 26)
        (.seq (.ops [⟨some 4, none, .mov (.const (.bool false))⟩])
         (.ret))
        (.skip))))
     (.ops [⟨some 15, none, .mov (.tmp 5)⟩,
      ⟨some 16, none, .bin .add false (.tmp 15) (.const (.int .i64 1))⟩,
      ⟨some 5, none, .mov (.tmp 16)⟩]))))))
  (.seq (.ops [⟨some 4, none, .mov (.const (.bool true))⟩])
  (.ret))))
def lf_laws_eqEventS : LF := { np := 2, N := 27, body := c_laws_eqEventS, res := [.tmp 4] }
theorem low_laws_eqEventS : LowF Try.prog Try.f99 lf_laws_eqEventS := LowF.mk' (by kernel_rfl) (by kernel_rfl) (by kernel_rfl) (by decide)

/-- laws.szTrans -/
def c_laws_szTrans : LC :=
  .seq (.ops [⟨some 2, none, .box 57 (.tmp 0)⟩,
    ⟨some 4, none, .mov (.const (.int .i64 0))⟩])
  (.seq (.ops [⟨some 5, none, .fieldAddr 2 (.tmp 2)⟩,
    ⟨some 6, none, .load none (.tmp 5)⟩,
    ⟨some 7, none, .mov (.tmp 1)⟩,
    ⟨some 8, none, .call 95 [.tmp 6, .tmp 7]⟩,
    ⟨some 1, none, .mov (.tmp 8)⟩])
  (.seq (.seq (.ops [⟨some 9, none, .mov (.tmp 1)⟩,
     ⟨some 10, none, .bin .lss false (.tmp 9) (.const (.int .i64 0))⟩])
   (.cond (.tmp 10)
    (.seq (.ops [⟨some 4, none, .mov (.const (.int .i64 (-1)))⟩])
     (.ret))
    (.skip)))
  (.seq (.ops [⟨some 11, none, .mov (.tmp 1)⟩,
    ⟨some 4, none, .mov (.tmp 11)⟩])
  (.ret))))
def lf_laws_szTrans : LF := { np := 2, N := 12, body := c_laws_szTrans, res := [.tmp 4] }
theorem low_laws_szTrans : LowF Try.prog Try.f42 lf_laws_szTrans := LowF.mk' (by kernel_rfl) (by kernel_rfl) (by kernel_rfl) (by decide)

/-- laws.toTrans -/
def c_laws_toTrans : LC :=
  .seq (.ops [⟨some 1, none, .box 57 (.tmp 0)⟩,
    ⟨some 2, none, .alloc 62 (.agg #[.int .i64 0, .int .i64 0, .slice none 0 0])⟩])
  (.seq (.ops [⟨some 3, none, .alloc 62 (.agg #[.int .i64 0, .int .i64 0, .slice none 0 0])⟩])
  (.seq (.ops [⟨some 4, none, .fieldAddr 0 (.tmp 1)⟩,
    ⟨some 5, none, .load none (.tmp 4)⟩,
    ⟨some 6, none, .fieldAddr 0 (.tmp 3)⟩,
    ⟨none, none, .store 1 (.tmp 6) (.tmp 5)⟩])
  (.seq (.ops [⟨some 7, none, .fieldAddr 1 (.tmp 1)⟩,
    ⟨some 8, none, .load none (.tmp 7)⟩,
    ⟨some 9, none, .fieldAddr 1 (.tmp 3)⟩,
    ⟨none, none, .store 1 (.tmp 9) (.tmp 8)⟩])
  (.seq (.ops [⟨some 10, none, .fieldAddr 2 (.tmp 1)⟩,
    ⟨some 11, none, .load none (.tmp 10)⟩,
    ⟨some 12, none, .call 97 [.tmp 11]⟩,
    ⟨some 13, none, .fieldAddr 2 (.tmp 3)⟩,
    ⟨none, none, .store 1 (.tmp 13) (.tmp 12)⟩])
  (.seq (.ops [⟨some 14, none, .load (some 3) (.tmp 3)⟩,
    ⟨none, none, .store 3 (.tmp 2) (.tmp 14)⟩])
  (.ret))))))
def lf_laws_toTrans : LF := { np := 1, N := 15, body := c_laws_toTrans, res := [.cell 2 (some 3)] }
theorem low_laws_toTrans : LowF Try.prog Try.f44 lf_laws_toTrans := LowF.mk' (by kernel_rfl) (by kernel_rfl) (by kernel_rfl) (by decide)

/-- laws.eqTrans -/
def c_laws_eqTrans : LC :=
  .seq (.ops [⟨some 2, none, .box 62 (.tmp 0)⟩,
    ⟨some 3, none, .box 62 (.tmp 1)⟩,
    ⟨some 4, none, .mov (.const (.bool false))⟩])
  (.seq (.seq (.ops [⟨some 5, none, .fieldAddr 0 (.tmp 2)⟩,
     ⟨some 6, none, .load none (.tmp 5)⟩,
     ⟨some 7, none, .fieldAddr 0 (.tmp 3)⟩,
     ⟨some 8, none, .load none (.tmp 7)⟩,
     ⟨some 9, none, .bin .neq false (.tmp 6) (.tmp 8)⟩])
   (.cond (.tmp 9)
    (.seq (.ops [⟨some 4, none, .mov (.const (.bool false))⟩])
     (.ret))
    (.skip)))
  (.seq (.seq (.ops [⟨some 10, none, .fieldAddr 1 (.tmp 2)⟩,
     ⟨some 11, none, .load none (.tmp 10)⟩,
     ⟨some 12, none, .fieldAddr 1 (.tmp 3)⟩,
     ⟨some 13, none, .load none (.tmp 12)⟩,
     ⟨some 14, none, .bin .neq false (.tmp 11) (.tmp 13)⟩])
   (.cond (.tmp 14)
    (.seq (.ops [⟨some 4, none, .mov (.const (.bool false))⟩])
     (.ret))
    (.skip)))
  (.seq (.seq (.ops [⟨some 15, none, .fieldAddr 2 (.tmp 2)⟩,
     ⟨some 16, none, .load none (.tmp 15)⟩,
     ⟨some 17, none, .fieldAddr 2 (.tmp 3)⟩,
     ⟨some 18, none, .load none (.tmp 17)⟩,
     ⟨some 19, none, .call 99 [.tmp 16, .tmp 18]⟩,
     ⟨some 20, none, .un .not (.tmp 19)⟩])
   (.cond (.tmp 20)
    (.seq (.ops [⟨some 4, none, .mov (.const (.bool false))⟩])
     (.ret))
    (.skip)))
  (.seq (.ops [⟨some 4, none, .mov (.const (.bool true))⟩])
  (.ret)))))
def lf_laws_eqTrans : LF := { np := 2, N := 21, body := c_laws_eqTrans, res := [.tmp 4] }
theorem low_laws_eqTrans : LowF Try.prog Try.f46 lf_laws_eqTrans := LowF.mk' (by kernel_rfl) (by kernel_rfl) (by kernel_rfl) (by decide)

/-- laws.szBatch -/
def c_laws_szBatch : LC :=
  .seq (.ops [⟨some 2, none, .box 119 (.tmp 0)⟩,
    ⟨some 4, none, .mov (.const (.int .i64 0))⟩])
  (.seq (.ops [⟨some 5, none, .fieldAddr 1 (.tmp 2)⟩,
    ⟨some 6, none, .load none (.tmp 5)⟩,
    ⟨some 7, none, .mov (.tmp 1)⟩,
    ⟨some 8, none, .call 95 [.tmp 6, .tmp 7]⟩,
    ⟨some 1, none, .mov (.tmp 8)⟩])
  (.seq (.seq (.ops [⟨some 9, none, .mov (.tmp 1)⟩,
     ⟨some 10, none, .bin .lss false (.tmp 9) (.const (.int .i64 0))⟩])
   (.cond (.tmp 10)
    (.seq (.ops [⟨some 4, none, .mov (.const (.int .i64 (-1)))⟩])
     (.ret))
    (.skip)))
  (.seq (.ops [⟨some 11, none, .mov (.tmp 1)⟩,
    ⟨some 4, none, .mov (.tmp 11)⟩])
  (.ret))))
def lf_laws_szBatch : LF := { np := 2, N := 12, body := c_laws_szBatch, res := [.tmp 4] }
theorem low_laws_szBatch : LowF Try.prog Try.f100 lf_laws_szBatch := LowF.mk' (by kernel_rfl) (by kernel_rfl) (by kernel_rfl) (by decide)

/-- laws.toBatch -/
def c_laws_toBatch : LC :=
  .seq (.ops [⟨some 1, none, .box 119 (.tmp 0)⟩,
    ⟨some 2, none, .alloc 121 (.agg #[.int .i64 0, .slice none 0 0])⟩])
  (.seq (.ops [⟨some 3, none, .alloc 121 (.agg #[.int .i64 0, .slice none 0 0])⟩])
  (.seq (.ops [⟨some 4, none, .fieldAddr 0 (.tmp 1)⟩,
    ⟨some 5, none, .load none (.tmp 4)⟩,
    ⟨some 6, none, .fieldAddr 0 (.tmp 3)⟩,
    ⟨none, none, .store 1 (.tmp 6) (.tmp 5)⟩])
  (.seq (.ops [⟨some 7, none, .fieldAddr 1 (.tmp 1)⟩,
    ⟨some 8, none, .load none (.tmp 7)⟩,
    ⟨some 9, none, .call 97 [.tmp 8]⟩,
    ⟨some 10, none, .fieldAddr 1 (.tmp 3)⟩,
    ⟨none, none, .store 1 (.tmp 10) (.tmp 9)⟩])
  (.seq (.ops [⟨some 11, none, .load (some 2) (.tmp 3)⟩,
    ⟨none, none, .store 2 (.tmp 2) (.tmp 11)⟩])
  (.ret)))))
def lf_laws_toBatch : LF := { np := 1, N := 12, body := c_laws_toBatch, res := [.cell 2 (some 2)] }
theorem low_laws_toBatch : LowF Try.prog Try.f101 lf_laws_toBatch := LowF.mk' (by kernel_rfl) (by kernel_rfl) (by kernel_rfl) (by decide)

/-- laws.eqBatch -/
def c_laws_eqBatch : LC :=
  .seq (.ops [⟨some 2, none, .box 121 (.tmp 0)⟩,
    ⟨some 3, none, .box 121 (.tmp 1)⟩,
    ⟨some 4, none, .mov (.const (.bool false))⟩])
  (.seq (.seq (.ops [⟨some 5, none, .fieldAddr 0 (.tmp 2)⟩,
     ⟨some 6, none, .load none (.tmp 5)⟩,
     ⟨some 7, none, .fieldAddr 0 (.tmp 3)⟩,
     ⟨some 8, none, .load none (.tmp 7)⟩,
     ⟨some 9, none, .bin .neq false (.tmp 6) (.tmp 8)⟩])
   (.cond (.tmp 9)
    (.seq (.ops [⟨some 4, none, .mov (.const (.bool false))⟩])
     (.ret))
    (.skip)))
  (.seq (.seq (.ops [⟨some 10, none, .fieldAddr 1 (.tmp 2)⟩,
     ⟨some 11, none, .load none (.tmp 10)⟩,
     ⟨some 12, none, .fieldAddr 1 (.tmp 3)⟩,
     ⟨some 13, none, .load none (.tmp 12)⟩,
     ⟨some 14, none, .call 99 [.tmp 11, .tmp 13]⟩,
     ⟨some 15, none, .un .not (.tmp 14)⟩])
   (.cond (.tmp 15)
    (.seq (.ops [⟨some 4, none, .mov (.const (.bool false))⟩])
     (.ret))
    (.skip)))
  (.seq (.ops [⟨some 4, none, .mov (.const (.bool true))⟩])
  (.ret))))
def lf_laws_eqBatch : LF := { np := 2, N := 16, body := c_laws_eqBatch, res := [.tmp 4] }
theorem low_laws_eqBatch : LowF Try.prog Try.f104 lf_laws_eqBatch := LowF.mk' (by kernel_rfl) (by kernel_rfl) (by kernel_rfl) (by decide)

/-- laws.szBatchS -/
def c_laws_szBatchS : LC :=
  .seq (.ops [⟨some 4, none, .mov (.const (.int .i64 0))⟩])
  (.seq (.ops [⟨some 6, none, .mov (.tmp 1)⟩,
    ⟨some 7, none, .mov (.tmp 0)⟩,
    ⟨some 8, none, .lenSl (.tmp 7)⟩,
    ⟨some 9, none, .bin .sub false (.tmp 6) (.tmp 8)⟩,
    ⟨some 1, none, .mov (.tmp 9)⟩])
  (.seq (.seq (.ops [⟨some 10, none, .mov (.tmp 1)⟩,
     ⟨some 11, none, .bin .lss false (.tmp 10) (.const (.int .i64 0))⟩])
   (.cond (.tmp 11)
    (.seq (.ops [⟨some 4, none, .mov (.const (.int .i64 (-1)))⟩])
     (.ret))
    (.skip)))
  (.seq (.seq (.ops [⟨some 5, none, .mov (.const (.int .i64 0))⟩])
   (.block 0 (.loop (.seq (.seq (.ops [⟨some 12, none, .mov (.tmp 5)⟩,
        ⟨some 13, none, .mov (.tmp 0)⟩,
        ⟨some 14, none, .lenSl (.tmp 13)⟩,
        ⟨some 15, none, .bin .lss false (.tmp 12) (.tmp 14)⟩])
      (.cond (.tmp 15)
       (.skip)
       (.exit 0)))
     (.seq (.block 1 (.seq (.ops [⟨some 18, none, .mov (.tmp 0)⟩,
         ⟨some 19, none, .mov (.tmp 5)⟩,
         ⟨some 20, none, .indexAddr 2 (.tmp 18) (.tmp 19)⟩,
         ⟨some 21, none, .load (some 2) (.tmp 20)⟩,
         ⟨some 22, none, .mov (.tmp 1)⟩,
         ⟨some 23, none, .call 100 [.tmp 21, .tmp 22]⟩,
         ⟨some 1, none, .mov (.tmp 23)⟩])
       (.seq (.ops [⟨some 24, none, .mov (.tmp 1)⟩,
         ⟨some 25, none, .bin .lss false (.tmp 24) (.const (.int .i64 0))⟩])
       (.cond (.tmp 25)
        (.seq (.ops [⟨some 4, none, .mov (.const (.int .i64 (-1)))⟩])
         (.ret))
        (.skip)))))
     (.ops [⟨some 16, none, .mov (.tmp 5)⟩,
      ⟨some 17, none, .bin .add false (.tmp 16) (.const (.int .i64 1))⟩,
      ⟨some 5, none, .mov (.tmp 17)⟩]))))))
  (.seq (.ops [⟨some 26, none, .mov (.tmp 1)⟩,
    ⟨some 4, none, .mov (.tmp 26)⟩])
  (.ret)))))
def lf_laws_szBatchS : LF := { np := 2, N := 27, body := c_laws_szBatchS, res := [.tmp 4] }
theorem low_laws_szBatchS : LowF Try.prog Try.f49 lf_laws_szBatchS := LowF.mk' (by kernel_rfl) (by kernel_rfl) (by kernel_rfl) (by decide)

/-- laws.toBatchS -/
def c_laws_toBatchS : LC :=
  .seq (.ops [⟨some 2, none, .mov (.const (.slice none 0 0))⟩])
  (.seq (.ops [⟨some 5, none, .mov (.tmp 0)⟩,
    ⟨some 6, none, .lenSl (.tmp 5)⟩,
    ⟨some 7, none, .mkSlice 121 2 32 (.agg #[.int .i64 0, .slice none 0 0]) (.tmp 6) (.tmp 6)⟩,
    ⟨some 3, none, .mov (.tmp 7)⟩])
  (.seq (.seq (.ops [⟨some 4, none, .mov (.const (.int .i64 0))⟩])
   (.block 0 (.loop (.seq (.seq (.ops [⟨some 8, none, .mov (.tmp 4)⟩,
        ⟨some 9, none, .mov (.tmp 0)⟩,
        ⟨some 10, none, .lenSl (.tmp 9)⟩,
        ⟨some 11, none, .bin .lss false (.tmp 8) (.tmp 10)⟩])
      (.cond (.tmp 11)
       (.skip)
       (.exit 0)))
     (.seq (.block 1 (.ops [⟨some 14, none, .mov (.tmp 3)⟩,
        ⟨some 15, none, .mov (.tmp 4)⟩,
        ⟨some 16, none, .mov (.tmp 0)⟩,
        ⟨some 17, none, .mov (.tmp 4)⟩,
        ⟨some 18, none, .indexAddr 2 (.tmp 16) (.tmp 17)⟩,
        ⟨some 19, none, .load (some 2) (.tmp 18)⟩,
        ⟨some 20, none, .call 101 [.tmp 19]⟩,
        ⟨some 21, none, .indexAddr 2 (.tmp 14) (.tmp 15)⟩,
        ⟨none, none, .store 2 (.tmp 21) (.tmp 20)⟩]))
     (.ops [⟨some 12, none, .mov (.tmp 4)⟩,
      ⟨some 13, none, .bin .add false (.tmp 12) (.const (.int .i64 1))⟩,
      ⟨some 4, none, .mov (.tmp 13)⟩]))))))
  (.seq (.ops [⟨some 22, none, .mov (.tmp 3)⟩,
    ⟨some 2, none, .mov (.tmp 22)⟩])
  (.ret))))
def lf_laws_toBatchS : LF := { np := 1, N := 23, body := c_laws_toBatchS, res := [.tmp 2] }
theorem low_laws_toBatchS : LowF Try.prog Try.f51 lf_laws_toBatchS := LowF.mk' (by kernel_rfl) (by kernel_rfl) (by kernel_rfl) (by decide)

/-- laws.eqBatchS -/
def c_laws_eqBatchS : LC :=
  .seq (.ops [⟨some 4, none, .mov (.const (.bool false))⟩])
  (.seq (.seq (.ops [⟨some 6, none, .mov (.tmp 0)⟩,
     ⟨some 7, none, .lenSl (.tmp 6)⟩,
     ⟨some 8, none, .mov (.tmp 1)⟩,
     ⟨some 9, none, .lenSl (.tmp 8)⟩,
     ⟨some 10, none, .bin .neq false (.tmp 7) (.tmp 9)⟩])
   (.cond (.tmp 10)
    (.seq (.ops [⟨some 4, none, .mov (.const (.bool false))⟩])
     (.ret))
    (.skip)))
  (.seq (.seq (.ops [⟨some 5, none, .mov (.const (.int .i64 0))⟩])
   (.block 0 (.loop (.seq (.seq (.ops [⟨some 11, none, .mov (.tmp 5)⟩,
        ⟨some 12, none, .mov (.tmp 0)⟩,
        ⟨some 13, none, .lenSl (.tmp 12)⟩,
        ⟨some 14, none, .bin .lss false (.tmp 11) (.tmp 13)⟩])
      (.cond (.tmp 14)
       (.skip)
       (.exit 0)))
     (.seq (.block 1 (.seq (.dops [⟨some 17, none, .mov (.tmp 0)⟩,
         ⟨some 18, none, .mov (.tmp 5)⟩,
         ⟨some 19, none, .indexAddr 2 (.tmp 17) (.tmp 18)⟩,
         ⟨some 20, none, .load (some 2) (.tmp 19)⟩,
         ⟨some 21, none, .mov (.tmp 1)⟩,
         ⟨some 22, none, .mov (.tmp 5)⟩,
         ⟨some 23, none, .indexAddr 2 (.tmp 21) (.tmp 22)⟩,
         ⟨some 24, none, .load (some 2) (.tmp 23)⟩,
         ⟨some 25, none, .call 104 [.tmp 20, .tmp 24]⟩,
         ⟨some 26, none, .un .not (.tmp 25)⟩])
       (.cond (.tmp 26)
        (.seq (.ops [⟨some 4, none, .mov (.const (.bool false))⟩])
         (.ret))
        (.skip))))
     (.ops [⟨some 15, none, .mov (.tmp 5)⟩,
      ⟨some 16, none, .bin .add false (.tmp 15) (.const (.int .i64 1))⟩,
      ⟨some 5, none, .mov (.tmp 16)⟩]))))))
  (.seq (.ops [⟨some 4, none, .mov (.const (.bool true))⟩])
  (.ret))))
def lf_laws_eqBatchS : LF := { np := 2, N := 27, body := c_laws_eqBatchS, res := [.tmp 4] }
theorem low_laws_eqBatchS : LowF Try.prog Try.f53 lf_laws_eqBatchS := LowF.mk' (by kernel_rfl) (by kernel_rfl) (by kernel_rfl) (by decide)

/-- laws.szLock -/
def c_laws_szLock : LC :=
  .seq (.ops [⟨some 2, none, .box 147 (.tmp 0)⟩,
    ⟨some 4, none, .mov (.const (.int .i64 0))⟩])
  (.seq (.ops [⟨some 5, none, .mov (.tmp 1)⟩,
    ⟨some 6, none, .fieldAddr 2 (.tmp 2)⟩,
    ⟨some 7, none, .load none (.tmp 6)⟩,
    ⟨some 8, none, .lenStr (.tmp 7)⟩,
    ⟨some 9, none, .bin .sub false (.tmp 5) (.tmp 8)⟩,
    ⟨some 1, none, .mov (.tmp 9)⟩])
  (.seq (.seq (.ops [⟨some 10, none, .mov (.tmp 1)⟩,
     ⟨some 11, none, .bin .lss false (.tmp 10) (.const (.int .i64 0))⟩])
   (.cond (.tmp 11)
    (.seq (.ops [⟨some 4, none, .mov (.const (.int .i64 (-1)))⟩])
     (.ret))
    (.skip)))
  (.seq (.ops [⟨some 12, none, .fieldAddr 3 (.tmp 2)⟩,
    ⟨some 13, none, .load none (.tmp 12)⟩,
    ⟨some 14, none, .mov (.tmp 1)⟩,
    ⟨some 15, none, .call 22 [.tmp 13, .tmp 14]⟩,
    ⟨some 1, none, .mov (.tmp 15)⟩])
  (.seq (.seq (.ops [⟨some 16, none, .mov (.tmp 1)⟩,
     ⟨some 17, none, .bin .lss false (.tmp 16) (.const (.int .i64 0))⟩])
   (.cond (.tmp 17)
    (.seq (.ops [⟨some 4, none, .mov (.const (.int .i64 (-1)))⟩])
     (.ret))
    (.skip)))
  (.seq (.ops [⟨some 18, none, .mov (.tmp 1)⟩,
    ⟨some 4, none, .mov (.tmp 18)⟩])
  (.ret))))))
def lf_laws_szLock : LF := { np := 2, N := 19, body := c_laws_szLock, res := [.tmp 4] }
theorem low_laws_szLock : LowF Try.prog Try.f132 lf_laws_szLock := LowF.mk' (by kernel_rfl) (by kernel_rfl) (by kernel_rfl) (by decide)

/-- laws.toLock -/
def c_laws_toLock : LC :=
  .seq (.ops [⟨some 1, none, .box 147 (.tmp 0)⟩,
    ⟨some 2, none, .alloc 128 (.agg #[.int .i64 0, .int .i64 0, .string ⟨#[]⟩, .slice none 0 0])⟩])
  (.seq (.ops [⟨some 3, none, .alloc 128 (.agg #[.int .i64 0, .int .i64 0, .string ⟨#[]⟩, .slice none 0 0])⟩])
  (.seq (.ops [⟨some 4, none, .fieldAddr 0 (.tmp 1)⟩,
    ⟨some 5, none, .load none (.tmp 4)⟩,
    ⟨some 6, none, .fieldAddr 0 (.tmp 3)⟩,
    ⟨none, none, .store 1 (.tmp 6) (.tmp 5)⟩])
  (.seq (.ops [⟨some 7, none, .fieldAddr 1 (.tmp 1)⟩,
    ⟨some 8, none, .load none (.tmp 7)⟩,
    ⟨some 9, none, .fieldAddr 1 (.tmp 3)⟩,
    ⟨none, none, .store 1 (.tmp 9) (.tmp 8)⟩])
  (.seq (.ops [⟨some 10, none, .fieldAddr 2 (.tmp 1)⟩,
    ⟨some 11, none, .load none (.tmp 10)⟩,
    ⟨some 12, none, .fieldAddr 2 (.tmp 3)⟩,
    ⟨none, none, .store 1 (.tmp 12) (.tmp 11)⟩])
  (.seq (.ops [⟨some 13, none, .fieldAddr 3 (.tmp 1)⟩,
    ⟨some 14, none, .load none (.tmp 13)⟩,
    ⟨some 15, none, .call 24 [.tmp 14]⟩,
    ⟨some 16, none, .fieldAddr 3 (.tmp 3)⟩,
    ⟨none, none, .store 1 (.tmp 16) (.tmp 15)⟩])
  (.seq (.ops [⟨some 17, none, .load (some 4) (.tmp 3)⟩,
    ⟨none, none, .store 4 (.tmp 2) (.tmp 17)⟩])
  (.ret)))))))
def lf_laws_toLock : LF := { np := 1, N := 18, body := c_laws_toLock, res := [.cell 2 (some 4)] }
theorem low_laws_toLock : LowF Try.prog Try.f134 lf_laws_toLock := LowF.mk' (by kernel_rfl) (by kernel_rfl) (by kernel_rfl) (by decide)

/-- laws.eqLock -/
def c_laws_eqLock : LC :=
  .seq (.ops [⟨some 2, none, .box 128 (.tmp 0)⟩,
    ⟨some 3, none, .box 128 (.tmp 1)⟩,
    ⟨some 4, none, .mov (.const (.bool false))⟩])
  (.seq (.seq (.ops [⟨some 5, none, .fieldAddr 0 (.tmp 2)⟩,
     ⟨some 6, none, .load none (.tmp 5)⟩,
     ⟨some 7, none, .fieldAddr 0 (.tmp 3)⟩,
     ⟨some 8, none, .load none (.tmp 7)⟩,
     ⟨some 9, none, .bin .neq false (.tmp 6) (.tmp 8)⟩])
   (.cond (.tmp 9)
    (.seq (.ops [⟨some 4, none, .mov (.const (.bool false))⟩])
     (.ret))
    (.skip)))
  (.seq (.seq (.ops [⟨some 10, none, .fieldAddr 1 (.tmp 2)⟩,
     ⟨some 11, none, .load none (.tmp 10)⟩,
     ⟨some 12, none, .fieldAddr 1 (.tmp 3)⟩,
     ⟨some 13, none, .load none (.tmp 12)⟩,
     ⟨some 14, none, .bin .neq false (.tmp 11) (.tmp 13)⟩])
   (.cond (.tmp 14)
    (.seq (.ops [⟨some 4, none, .mov (.const (.bool false))⟩])
     (.ret))
    (.skip)))
  (.seq (.seq (.ops [⟨some 15, none, .fieldAddr 2 (.tmp 2)⟩,
     ⟨some 16, none, .load none (.tmp 15)⟩,
     ⟨some 17, none, .fieldAddr 2 (.tmp 3)⟩,
     ⟨some 18, none, .load none (.tmp 17)⟩,
     ⟨some 19, none, .bin .neq false (.tmp 16) (.tmp 18)⟩])
   (.cond (.tmp 19)
    (.seq (.ops [⟨some 4, none, .mov (.const (.bool false))⟩])
     (.ret))
    (.skip)))
  (.seq (.seq (.ops [⟨some 20, none, .fieldAddr 3 (.tmp 2)⟩,
     ⟨some 21, none, .load none (.tmp 20)⟩,
     ⟨some 22, none, .fieldAddr 3 (.tmp 3)⟩,
     ⟨some 23, none, .load none (.tmp 22)⟩,
     ⟨some 24, none, .call 26 [.tmp 21, .tmp 23]⟩,
     ⟨some 25, none, .un .not (.tmp 24)⟩])
   (.cond (.tmp 25)
    (.seq (.ops [⟨some 4, none, .mov (.const (.bool false))⟩])
     (.ret))
    (.skip)))
  (.seq (.ops [⟨some 4, none, .mov (.const (.bool true))⟩])
  (.ret))))))
def lf_laws_eqLock : LF := { np := 2, N := 26, body := c_laws_eqLock, res := [.tmp 4] }
theorem low_laws_eqLock : LowF Try.prog Try.f136 lf_laws_eqLock := LowF.mk' (by kernel_rfl) (by kernel_rfl) (by kernel_rfl) (by decide)

/-- laws.szLockS -/
def c_laws_szLockS : LC :=
  .seq (.ops [⟨some 4, none, .mov (.const (.int .i64 0))⟩])
  (.seq (.ops [⟨some 6, none, .mov (.tmp 1)⟩,
    ⟨some 7, none, .mov (.tmp 0)⟩,
    ⟨some 8, none, .lenSl (.tmp 7)⟩,
    ⟨some 9, none, .bin .sub false (.tmp 6) (.tmp 8)⟩,
    ⟨some 1, none, .mov (.tmp 9)⟩])
  (.seq (.seq (.ops [⟨some 10, none, .mov (.tmp 1)⟩,
     ⟨some 11, none, .bin .lss false (.tmp 10) (.const (.int .i64 0))⟩])
   (.cond (.tmp 11)
    (.seq (.ops [⟨some 4, none, .mov (.const (.int .i64 (-1)))⟩])
     (.ret))
    (.skip)))
  (.seq (.seq (.ops [⟨some 5, none, .mov (.const (.int .i64 0))⟩])
   (.block 0 (.loop (.seq (.seq (.ops [⟨some 12, none, .mov (.tmp 5)⟩,
        ⟨some 13, none, .mov (.tmp 0)⟩,
        ⟨some 14, none, .lenSl (.tmp 13)⟩,
        ⟨some 15, none, .bin .lss false (.tmp 12) (.tmp 14)⟩])
      (.cond (.tmp 15)
       (.skip)
       (.exit 0)))
     (.seq (.block 1 (.seq (.ops [⟨some 18, none, .mov (.tmp 0)⟩,
         ⟨some 19, none, .mov (.tmp 5)⟩,
         ⟨some 20, none, .indexAddr 4 (.tmp 18) (.tmp 19)⟩,
         ⟨some 21, none, .load (some 4) (.tmp 20)⟩,
         ⟨some 22, none, .mov (.tmp 1)⟩,
         ⟨some 23, none, .call 132 [.tmp 21, .tmp 22]⟩,
         ⟨some 1, none, .mov (.tmp 23)⟩])
       (.seq (.ops [⟨some 24, none, .mov (.tmp 1)⟩,
         ⟨some 25, none, .bin .lss false (.tmp 24) (.const (.int .i64 0))⟩])
       (.cond (.tmp 25)
        (.seq (.ops [⟨some 4, none, .mov (.const (.int .i64 (-1)))⟩])
         (.ret))
        (.skip)))))
     (.ops [⟨some 16, none, .mov (.tmp 5)⟩,
      ⟨some 17, none, .bin .add false (.tmp 16) (.const (.int .i64 1))⟩,
      ⟨some 5, none, .mov (.tmp 17)⟩]))))))
  (.seq (.ops [⟨some 26, none, .mov (.tmp 1)⟩,
    ⟨some 4, none, .mov (.tmp 26)⟩])
  (.ret)))))
def lf_laws_szLockS : LF := { np := 2, N := 27, body := c_laws_szLockS, res := [.tmp 4] }
theorem low_laws_szLockS : LowF Try.prog Try.f105 lf_laws_szLockS := LowF.mk' (by kernel_rfl) (by kernel_rfl) (by kernel_rfl) (by decide)

/-- laws.toLockS -/
def c_laws_toLockS : LC :=
  .seq (.ops [⟨some 2, none, .mov (.const (.slice none 0 0))⟩])
  (.seq (.ops [⟨some 5, none, .mov (.tmp 0)⟩,
    ⟨some 6, none, .lenSl (.tmp 5)⟩,
    ⟨some 7, none, .mkSlice 128 4 56 (.agg #[.int .i64 0, .int .i64 0, .string ⟨#[]⟩, .slice none 0 0]) (.tmp 6) (.tmp 6)⟩,
    ⟨some 3, none, .mov (.tmp 7)⟩])
  (.seq (.seq (.ops [⟨some 4, none, .mov (.const (.int .i64 0))⟩])
   (.block 0 (.loop (.seq (.seq (.ops [⟨some 8, none, .mov (.tmp 4)⟩,
        ⟨some 9, none, .mov (.tmp 0)⟩,
        ⟨some 10, none, .lenSl (.tmp 9)⟩,
        ⟨some 11, none, .bin .lss false (.tmp 8) (.tmp 10)⟩])
      (.cond (.tmp 11)
       (.skip)
       (.exit 0)))
     (.seq (.block 1 (.ops [⟨some 14, none, .mov (.tmp 3)⟩,
        ⟨some 15, none, .mov (.tmp 4)⟩,
        ⟨some 16, none, .mov (.tmp 0)⟩,
        ⟨some 17, none, .mov (.tmp 4)⟩,
        ⟨some 18, none, .indexAddr 4 (.tmp 16) (.tmp 17)⟩,
        ⟨some 19, none, .load (some 4) (.tmp 18)⟩,
        ⟨some 20, none, .call 134 [.tmp 19]⟩,
        ⟨some 21, none, .indexAddr 4 (.tmp 14) (.tmp 15)⟩,
        ⟨none, none, .store 4 (.tmp 21) (.tmp 20)⟩]))
     (.ops [⟨some 12, none, .mov (.tmp 4)⟩,
      ⟨some 13, none, .bin .add false (.tmp 12) (.const (.int .i64 1))⟩,
      ⟨some 4, none, .mov (.tmp 13)⟩]))))))
  (.seq (.ops [⟨some 22, none, .mov (.tmp 3)⟩,
    ⟨some 2, none, .mov (.tmp 22)⟩])
  (.ret))))
def lf_laws_toLockS : LF := { np := 1, N := 23, body := c_laws_toLockS, res := [.tmp 2] }
theorem low_laws_toLockS : LowF Try.prog Try.f107 lf_laws_toLockS := LowF.mk' (by kernel_rfl) (by kernel_rfl) (by kernel_rfl) (by decide)

/-- laws.eqLockS -/
def c_laws_eqLockS : LC :=
  .seq (.ops [⟨some 4, none, .mov (.const (.bool false))⟩])
  (.seq (.seq (.ops [⟨some 6, none, .mov (.tmp 0)⟩,
     ⟨some 7, none, .lenSl (.tmp 6)⟩,
     ⟨some 8, none, .mov (.tmp 1)⟩,
     ⟨some 9, none, .lenSl (.tmp 8)⟩,
     ⟨some 10, none, .bin .neq false (.tmp 7) (.tmp 9)⟩])
   (.cond (.tmp 10)
    (.seq (.ops [⟨some 4, none, .mov (.const (.bool false))⟩])
     (.ret))
    (.skip)))
  (.seq (.seq (.ops [⟨some 5, none, .mov (.const (.int .i64 0))⟩])
   (.block 0 (.loop (.seq (.seq (.ops [⟨some 11, none, .mov (.tmp 5)⟩,
        ⟨some 12, none, .mov (.tmp 0)⟩,
        ⟨some 13, none, .lenSl (.tmp 12)⟩,
        ⟨some 14, none, .bin .lss false (.tmp 11) (.tmp 13)⟩])
      (.cond (.tmp 14)
       (.skip)
       (.exit 0)))
     (.seq (.block 1 (.seq (.dops [⟨some 17, none, .mov (.tmp 0)⟩,
         ⟨some 18, none, .mov (.tmp 5)⟩,
         ⟨some 19, none, .indexAddr 4 (.tmp 17) (.tmp 18)⟩,
         ⟨some 20, none, .load (some 4) (.tmp 19)⟩,
         ⟨some 21, none, .mov (.tmp 1)⟩,
         ⟨some 22, none, .mov (.tmp 5)⟩,
         ⟨some 23, none, .indexAddr 4 (.tmp 21) (.tmp 22)⟩,
         ⟨some 24, none, .load (some 4) (.tmp 23)⟩,
         ⟨some 25, none, .call 136 [.tmp 20, .tmp 24]⟩,
         ⟨some 26, none, .un .not (.tmp 25)⟩])
       (.cond (.tmp 26)
        (.seq (.ops [⟨some 4, none, .mov (.const (.bool false))⟩])
         (.ret))
        (.skip))))
     (.ops [⟨some 15, none, .mov (.tmp 5)⟩,
      ⟨some 16, none, .bin .add false (.tmp 15) (.const (.int .i64 1))⟩,
      ⟨some 5, none, .mov (.tmp 16)⟩]))))))
  (.seq (.ops [⟨some 4, none, .mov (.const (.bool true))⟩])
  (.ret))))
def lf_laws_eqLockS : LF := { np := 2, N := 27, body := c_laws_eqLockS, res := [.tmp 4] }
theorem low_laws_eqLockS : LowF Try.prog Try.f113 lf_laws_eqLockS := LowF.mk' (by kernel_rfl) (by kernel_rfl) (by kernel_rfl) (by decide)

/-- laws.szAsk -/
def c_laws_szAsk : LC :=
  .seq (.ops [⟨some 2, none, .box 149 (.tmp 0)⟩,
    ⟨some 4, none, .mov (.const (.int .i64 0))⟩])
  (.seq (.ops [⟨some 5, none, .mov (.tmp 1)⟩,
    ⟨some 6, none, .fieldAddr 2 (.tmp 2)⟩,
    ⟨some 7, none, .load none (.tmp 6)⟩,
    ⟨some 8, none, .lenStr (.tmp 7)⟩,
    ⟨some 9, none, .bin .sub false (.tmp 5) (.tmp 8)⟩,
    ⟨some 1, none, .mov (.tmp 9)⟩])
  (.seq (.seq (.ops [⟨some 10, none, .mov (.tmp 1)⟩,
     ⟨some 11, none, .bin .lss false (.tmp 10) (.const (.int .i64 0))⟩])
   (.cond (.tmp 11)
    (.seq (.ops [⟨some 4, none, .mov (.const (.int .i64 (-1)))⟩])
     (.ret))
    (.skip)))
  (.seq (.ops [⟨some 12, none, .fieldAddr 3 (.tmp 2)⟩,
    ⟨some 13, none, .load none (.tmp 12)⟩,
    ⟨some 14, none, .mov (.tmp 1)⟩,
    ⟨some 15, none, .call 22 [.tmp 13, .tmp 14]⟩,
    ⟨some 1, none, .mov (.tmp 15)⟩])
  (.seq (.seq (.ops [⟨some 16, none, .mov (.tmp 1)⟩,
     ⟨some 17, none, .bin .lss false (.tmp 16) (.const (.int .i64 0))⟩])
   (.cond (.tmp 17)
    (.seq (.ops [⟨some 4, none, .mov (.const (.int .i64 (-1)))⟩])
     (.ret))
    (.skip)))
  (.seq (.ops [⟨some 18, none, .mov (.tmp 1)⟩,
    ⟨some 4, none, .mov (.tmp 18)⟩])
  (.ret))))))
def lf_laws_szAsk : LF := { np := 2, N := 19, body := c_laws_szAsk, res := [.tmp 4] }
theorem low_laws_szAsk : LowF Try.prog Try.f133 lf_laws_szAsk := LowF.mk' (by kernel_rfl) (by kernel_rfl) (by kernel_rfl) (by decide)

/-- laws.toAsk -/
def c_laws_toAsk : LC :=
  .seq (.ops [⟨some 1, none, .box 149 (.tmp 0)⟩,
    ⟨some 2, none, .alloc 130 (.agg #[.int .i64 0, .int .i64 0, .string ⟨#[]⟩, .slice none 0 0])⟩])
  (.seq (.ops [⟨some 3, none, .alloc 130 (.agg #[.int .i64 0, .int .i64 0, .string ⟨#[]⟩, .slice none 0 0])⟩])
  (.seq (.ops [⟨some 4, none, .fieldAddr 0 (.tmp 1)⟩,
    ⟨some 5, none, .load none (.tmp 4)⟩,
    ⟨some 6, none, .fieldAddr 0 (.tmp 3)⟩,
    ⟨none, none, .store 1 (.tmp 6) (.tmp 5)⟩])
  (.seq (.ops [⟨some 7, none, .fieldAddr 1 (.tmp 1)⟩,
    ⟨some 8, none, .load none (.tmp 7)⟩,
    ⟨some 9, none, .fieldAddr 1 (.tmp 3)⟩,
    ⟨none, none, .store 1 (.tmp 9) (.tmp 8)⟩])
  (.seq (.ops [⟨some 10, none, .fieldAddr 2 (.tmp 1)⟩,
    ⟨some 11, none, .load none (.tmp 10)⟩,
    ⟨some 12, none, .fieldAddr 2 (.tmp 3)⟩,
    ⟨none, none, .store 1 (.tmp 12) (.tmp 11)⟩])
  (.seq (.ops [⟨some 13, none, .fieldAddr 3 (.tmp 1)⟩,
    ⟨some 14, none, .load none (.tmp 13)⟩,
    ⟨some 15, none, .call 24 [.tmp 14]⟩,
    ⟨some 16, none, .fieldAddr 3 (.tmp 3)⟩,
    ⟨none, none, .store 1 (.tmp 16) (.tmp 15)⟩])
  (.seq (.ops [⟨some 17, none, .load (some 4) (.tmp 3)⟩,
    ⟨none, none, .store 4 (.tmp 2) (.tmp 17)⟩])
  (.ret)))))))
def lf_laws_toAsk : LF := { np := 1, N := 18, body := c_laws_toAsk, res := [.cell 2 (some 4)] }
theorem low_laws_toAsk : LowF Try.prog Try.f135 lf_laws_toAsk := LowF.mk' (by kernel_rfl) (by kernel_rfl) (by kernel_rfl) (by decide)

/-- laws.eqAsk -/
def c_laws_eqAsk : LC :=
  .seq (.ops [⟨some 2, none, .box 130 (.tmp 0)⟩,
    ⟨some 3, none, .box 130 (.tmp 1)⟩,
    ⟨some 4, none, .mov (.const (.bool false))⟩])
  (.seq (.seq (.ops [⟨some 5, none, .fieldAddr 0 (.tmp 2)⟩,
     ⟨some 6, none, .load none (.tmp 5)⟩,
     ⟨some 7, none, .fieldAddr 0 (.tmp 3)⟩,
     ⟨some 8, none, .load none (.tmp 7)⟩,
     ⟨some 9, none, .bin .neq false (.tmp 6) (.tmp 8)⟩])
   (.cond (.tmp 9)
    (.seq (.ops [⟨some 4, none, .mov (.const (.bool false))⟩])
     (.ret))
    (.skip)))
  (.seq (.seq (.ops [⟨some 10, none, .fieldAddr 1 (.tmp 2)⟩,
     ⟨some 11, none, .load none (.tmp 10)⟩,
     ⟨some 12, none, .fieldAddr 1 (.tmp 3)⟩,
     ⟨some 13, none, .load none (.tmp 12)⟩,
     ⟨some 14, none, .bin .neq false (.tmp 11) (.tmp 13)⟩])
   (.cond (.tmp 14)
    (.seq (.ops [⟨some 4, none, .mov (.const (.bool false))⟩])
     (.ret))
    (.skip)))
  (.seq (.seq (.ops [⟨some 15, none, .fieldAddr 2 (.tmp 2)⟩,
     ⟨some 16, none, .load none (.tmp 15)⟩,
     ⟨some 17, none, .fieldAddr 2 (.tmp 3)⟩,
     ⟨some 18, none, .load none (.tmp 17)⟩,
     ⟨some 19, none, .bin .neq false (.tmp 16) (.tmp 18)⟩])
   (.cond (.tmp 19)
    (.seq (.ops [⟨some 4, none, .mov (.const (.bool false))⟩])
     (.ret))
    (.skip)))
  (.seq (.seq (.ops [⟨some 20, none, .fieldAddr 3 (.tmp 2)⟩,
     ⟨some 21, none, .load none (.tmp 20)⟩,
     ⟨some 22, none, .fieldAddr 3 (.tmp 3)⟩,
     ⟨some 23, none, .load none (.tmp 22)⟩,
     ⟨some 24, none, .call 26 [.tmp 21, .tmp 23]⟩,
     ⟨some 25, none, .un .not (.tmp 24)⟩])
   (.cond (.tmp 25)
    (.seq (.ops [⟨some 4, none, .mov (.const (.bool false))⟩])
     (.ret))
    (.skip)))
  (.seq (.ops [⟨some 4, none, .mov (.const (.bool true))⟩])
  (.ret))))))
def lf_laws_eqAsk : LF := { np := 2, N := 26, body := c_laws_eqAsk, res := [.tmp 4] }
theorem low_laws_eqAsk : LowF Try.prog Try.f137 lf_laws_eqAsk := LowF.mk' (by kernel_rfl) (by kernel_rfl) (by kernel_rfl) (by decide)

/-- laws.szAskS -/
def c_laws_szAskS : LC :=
  .seq (.ops [⟨some 4, none, .mov (.const (.int .i64 0))⟩])
  (.seq (.ops [⟨some 6, none, .mov (.tmp 1)⟩,
    ⟨some 7, none, .mov (.tmp 0)⟩,
    ⟨some 8, none, .lenSl (.tmp 7)⟩,
    ⟨some 9, none, .bin .sub false (.tmp 6) (.tmp 8)⟩,
    ⟨some 1, none, .mov (.tmp 9)⟩])
  (.seq (.seq (.ops [⟨some 10, none, .mov (.tmp 1)⟩,
     ⟨some 11, none, .bin .lss false (.tmp 10) (.const (.int .i64 0))⟩])
   (.cond (.tmp 11)
    (.seq (.ops [⟨some 4, none, .mov (.const (.int .i64 (-1)))⟩])
     (.ret))
    (.skip)))
  (.seq (.seq (.ops [⟨some 5, none, .mov (.const (.int .i64 0))⟩])
   (.block 0 (.loop (.seq (.seq (.ops [⟨some 12, none, .mov (.tmp 5)⟩,
        ⟨some 13, none, .mov (.tmp 0)⟩,
        ⟨some 14, none, .lenSl (.tmp 13)⟩,
        ⟨some 15, none, .bin .lss false (.tmp 12) (.tmp 14)⟩])
      (.cond (.tmp 15)
       (.skip)
       (.exit 0)))
     (.seq (.block 1 (.seq (.ops [⟨some 18, none, .mov (.tmp 0)⟩,
         ⟨some 19, none, .mov (.tmp 5)⟩,
         ⟨some 20, none, .indexAddr 4 (.tmp 18) (.tmp 19)⟩,
         ⟨some 21, none, .load (some 4) (.tmp 20)⟩,
         ⟨some 22, none, .mov (.tmp 1)⟩,
         ⟨some 23, none, .call 133 [.tmp 21, .tmp 22]⟩,
         ⟨some 1, none, .mov (.tmp 23)⟩])
       (.seq (.ops [⟨some 24, none, .mov (.tmp 1)⟩,
         ⟨some 25, none, .bin .lss false (.tmp 24) (.const (.int .i64 0))⟩])
       (.cond (.tmp 25)
        (.seq (.ops [⟨some 4, none, .mov (.const (.int .i64 (-1)))⟩])
         (.ret))
        (.skip)))))
     (.ops [⟨some 16, none, .mov (.tmp 5)⟩,
      ⟨some 17, none, .bin .add false (.tmp 16) (.const (.int .i64 1))⟩,
      ⟨some 5, none, .mov (.tmp 17)⟩]))))))
  (.seq (.ops [⟨some 26, none, .mov (.tmp 1)⟩,
    ⟨some 4, none, .mov (.tmp 26)⟩])
  (.ret)))))
def lf_laws_szAskS : LF := { np := 2, N := 27, body := c_laws_szAskS, res := [.tmp 4] }
theorem low_laws_szAskS : LowF Try.prog Try.f106 lf_laws_szAskS := LowF.mk' (by kernel_rfl) (by kernel_rfl) (by kernel_rfl) (by decide)

/-- laws.toAskS -/
def c_laws_toAskS : LC :=
  .seq (.ops [⟨some 2, none, .mov (.const (.slice none 0 0))⟩])
  (.seq (.ops [⟨some 5, none, .mov (.tmp 0)⟩,
    ⟨some 6, none, .lenSl (.tmp 5)⟩,
    ⟨some 7, none, .mkSlice 130 4 56 (.agg #[.int .i64 0, .int .i64 0, .string ⟨#[]⟩, .slice none 0 0]) (.tmp 6) (.tmp 6)⟩,
    ⟨some 3, none, .mov (.tmp 7)⟩])
  (.seq (.seq (.ops [⟨some 4, none, .mov (.const (.int .i64 0))⟩])
   (.block 0 (.loop (.seq (.seq (.ops [⟨some 8, none, .mov (.tmp 4)⟩,
        ⟨some 9, none, .mov (.tmp 0)⟩,
        ⟨some 10, none, .lenSl (.tmp 9)⟩,
        ⟨some 11, none, .bin .lss false (.tmp 8) (.tmp 10)⟩])
      (.cond (.tmp 11)
       (.skip)
       (.exit 0)))
     (.seq (.block 1 (.ops [⟨some 14, none, .mov (.tmp 3)⟩,
        ⟨some 15, none, .mov (.tmp 4)⟩,
        ⟨some 16, none, .mov (.tmp 0)⟩,
        ⟨some 17, none, .mov (.tmp 4)⟩,
        ⟨some 18, none, .indexAddr 4 (.tmp 16) (.tmp 17)⟩,
        ⟨some 19, none, .load (some 4) (.tmp 18)⟩,
        ⟨some 20, none, .call 135 [.tmp 19]⟩,
        ⟨some 21, none, .indexAddr 4 (.tmp 14) (.tmp 15)⟩,
        ⟨none, none, .store 4 (.tmp 21) (.tmp 20)⟩]))
     (.ops [⟨some 12, none, .mov (.tmp 4)⟩,
      ⟨some 13, none, .bin .add false (.tmp 12) (.const (.int .i64 1))⟩,
      ⟨some 4, none, .mov (.tmp 13)⟩]))))))
  (.seq (.ops [⟨some 22, none, .mov (.tmp 3)⟩,
    ⟨some 2, none, .mov (.tmp 22)⟩])
  (.ret))))
def lf_laws_toAskS : LF := { np := 1, N := 23, body := c_laws_toAskS, res := [.tmp 2] }
theorem low_laws_toAskS : LowF Try.prog Try.f108 lf_laws_toAskS := LowF.mk' (by kernel_rfl) (by kernel_rfl) (by kernel_rfl) (by decide)

/-- laws.eqAskS -/
def c_laws_eqAskS : LC :=
  .seq (.ops [⟨some 4, none, .mov (.const (.bool false))⟩])
  (.seq (.seq (.ops [⟨some 6, none, .mov (.tmp 0)⟩,
     ⟨some 7, none, .lenSl (.tmp 6)⟩,
     ⟨some 8, none, .mov (.tmp 1)⟩,
     ⟨some 9, none, .lenSl (.tmp 8)⟩,
     ⟨some 10, none, .bin .neq false (.tmp 7) (.tmp 9)⟩])
   (.cond (.tmp 10)
    (.seq (.ops [⟨some 4, none, .mov (.const (.bool false))⟩])
     (.ret))
    (.skip)))
  (.seq (.seq (.ops [⟨some 5, none, .mov (.const (.int .i64 0))⟩])
   (.block 0 (.loop (.seq (.seq (.ops [⟨some 11, none, .mov (.tmp 5)⟩,
        ⟨some 12, none, .mov (.tmp 0)⟩,
        ⟨some 13, none, .lenSl (.tmp 12)⟩,
        ⟨some 14, none, .bin .lss false (.tmp 11) (.tmp 13)⟩])
      (.cond (.tmp 14)
       (.skip)
       (.exit 0)))
     (.seq (.block 1 (.seq (.dops [⟨some 17, none, .mov (.tmp 0)⟩,
         ⟨some 18, none, .mov (.tmp 5)⟩,
         ⟨some 19, none, .indexAddr 4 (.tmp 17) (.tmp 18)⟩,
         ⟨some 20, none, .load (some 4) (.tmp 19)⟩,
         ⟨some 21, none, .mov (.tmp 1)⟩,
         ⟨some 22, none, .mov (.tmp 5)⟩,
         ⟨some 23, none, .indexAddr 4 (.tmp 21) (.tmp 22)⟩,
         ⟨some 24, none, .load (some 4) (.tmp 23)⟩,
         ⟨some 25, none, .call 137 [.tmp 20, .tmp 24]⟩,
         ⟨some 26, none, .un .not (.tmp 25)⟩])
       (.cond (.tmp 26)
        (.seq (.ops [⟨some 4, none, .mov (.const (.bool false))⟩])
         (.ret))
        (.skip))))
     (.ops [⟨some 15, none, .mov (.tmp 5)⟩,
      ⟨some 16, none, .bin .add false (.tmp 15) (.const (.int .i64 1))⟩,
      ⟨some 5, none, .mov (.tmp 16)⟩]))))))
  (.seq (.ops [⟨some 4, none, .mov (.const (.bool true))⟩])
  (.ret))))
def lf_laws_eqAskS : LF := { np := 2, N := 27, body := c_laws_eqAskS, res := [.tmp 4] }
theorem low_laws_eqAskS : LowF Try.prog Try.f114 lf_laws_eqAskS := LowF.mk' (by kernel_rfl) (by kernel_rfl) (by kernel_rfl) (by decide)

/-- laws.szLocks -/
def c_laws_szLocks : LC :=
  .seq (.ops [⟨some 2, none, .box 76 (.tmp 0)⟩,
    ⟨some 4, none, .mov (.const (.int .i64 0))⟩])
  (.seq (.ops [⟨some 5, none, .fieldAddr 0 (.tmp 2)⟩,
    ⟨some 6, none, .load none (.tmp 5)⟩,
    ⟨some 7, none, .mov (.tmp 1)⟩,
    ⟨some 8, none, .call 105 [.tmp 6, .tmp 7]⟩,
    ⟨some 1, none, .mov (.tmp 8)⟩])
  (.seq (.seq (.ops [⟨some 9, none, .mov (.tmp 1)⟩,
     ⟨some 10, none, .bin .lss false (.tmp 9) (.const (.int .i64 0))⟩])
   (.cond (.tmp 10)
    (.seq (.ops [⟨some 4, none, .mov (.const (.int .i64 (-1)))⟩])
     (.ret))
    (.skip)))
  (.seq (.ops [⟨some 11, none, .fieldAddr 1 (.tmp 2)⟩,
    ⟨some 12, none, .load none (.tmp 11)⟩,
    ⟨some 13, none, .mov (.tmp 1)⟩,
    ⟨some 14, none, .call 106 [.tmp 12, .tmp 13]⟩,
    ⟨some 1, none, .mov (.tmp 14)⟩])
  (.seq (.seq (.ops [⟨some 15, none, .mov (.tmp 1)⟩,
     ⟨some 16, none, .bin .lss false (.tmp 15) (.const (.int .i64 0))⟩])
   (.cond (.tmp 16)
    (.seq (.ops [⟨some 4, none, .mov (.const (.int .i64 (-1)))⟩])
     (.ret))
    (.skip)))
  (.seq (.ops [⟨some 17, none, .mov (.tmp 1)⟩,
    ⟨some 4, none, .mov (.tmp 17)⟩])
  (.ret))))))
def lf_laws_szLocks : LF := { np := 2, N := 18, body := c_laws_szLocks, res := [.tmp 4] }
theorem low_laws_szLocks : LowF Try.prog Try.f54 lf_laws_szLocks := LowF.mk' (by kernel_rfl) (by kernel_rfl) (by kernel_rfl) (by decide)

/-- laws.toLocks -/
def c_laws_toLocks : LC :=
  .seq (.ops [⟨some 1, none, .box 76 (.tmp 0)⟩,
    ⟨some 2, none, .alloc 82 (.agg #[.slice none 0 0, .slice none 0 0])⟩])
  (.seq (.ops [⟨some 3, none, .alloc 82 (.agg #[.slice none 0 0, .slice none 0 0])⟩])
  (.seq (.ops [⟨some 4, none, .fieldAddr 0 (.tmp 1)⟩,
    ⟨some 5, none, .load none (.tmp 4)⟩,
    ⟨some 6, none, .call 107 [.tmp 5]⟩,
    ⟨some 7, none, .fieldAddr 0 (.tmp 3)⟩,
    ⟨none, none, .store 1 (.tmp 7) (.tmp 6)⟩])
  (.seq (.ops [⟨some 8, none, .fieldAddr 1 (.tmp 1)⟩,
    ⟨some 9, none, .load none (.tmp 8)⟩,
    ⟨some 10, none, .call 108 [.tmp 9]⟩,
    ⟨some 11, none, .fieldAddr 1 (.tmp 3)⟩,
    ⟨none, none, .store 1 (.tmp 11) (.tmp 10)⟩])
  (.seq (.ops [⟨some 12, none, .load (some 2) (.tmp 3)⟩,
    ⟨none, none, .store 2 (.tmp 2) (.tmp 12)⟩])
  (.ret)))))
def lf_laws_toLocks : LF := { np := 1, N := 13, body := c_laws_toLocks, res := [.cell 2 (some 2)] }
theorem low_laws_toLocks : LowF Try.prog Try.f56 lf_laws_toLocks := LowF.mk' (by kernel_rfl) (by kernel_rfl) (by kernel_rfl) (by decide)

/-- laws.eqLocks -/
def c_laws_eqLocks : LC :=
  .seq (.ops [⟨some 2, none, .box 82 (.tmp 0)⟩,
    ⟨some 3, none, .box 82 (.tmp 1)⟩,
    ⟨some 4, none, .mov (.const (.bool false))⟩])
  (.seq (.seq (.ops [⟨some 5, none, .fieldAddr 0 (.tmp 2)⟩,
     ⟨some 6, none, .load none (.tmp 5)⟩,
     ⟨some 7, none, .fieldAddr 0 (.tmp 3)⟩,
     ⟨some 8, none, .load none (.tmp 7)⟩,
     ⟨some 9, none, .call 113 [.tmp 6, .tmp 8]⟩,
     ⟨some 10, none, .un .not (.tmp 9)⟩])
   (.cond (.tmp 10)
    (.seq (.ops [⟨some 4, none, .mov (.const (.bool false))⟩])
     (.ret))
    (.skip)))
  (.seq (.seq (.ops [⟨some 11, none, .fieldAddr 1 (.tmp 2)⟩,
     ⟨some 12, none, .load none (.tmp 11)⟩,
     ⟨some 13, none, .fieldAddr 1 (.tmp 3)⟩,
     ⟨some 14, none, .load none (.tmp 13)⟩,
     ⟨some 15, none, .call 114 [.tmp 12, .tmp 14]⟩,
     ⟨some 16, none, .un .not (.tmp 15)⟩])
   (.cond (.tmp 16)
    (.seq (.ops [⟨some 4, none, .mov (.const (.bool false))⟩])
     (.ret))
    (.skip)))
  (.seq (.ops [⟨some 4, none, .mov (.const (.bool true))⟩])
  (.ret))))
def lf_laws_eqLocks : LF := { np := 2, N := 17, body := c_laws_eqLocks, res := [.tmp 4] }
theorem low_laws_eqLocks : LowF Try.prog Try.f58 lf_laws_eqLocks := LowF.mk' (by kernel_rfl) (by kernel_rfl) (by kernel_rfl) (by decide)

/-- laws.szChange -/
def c_laws_szChange : LC :=
  .seq (.ops [⟨some 2, none, .box 86 (.tmp 0)⟩,
    ⟨some 4, none, .mov (.const (.int .i64 0))⟩])
  (.seq (.ops [⟨some 5, none, .mov (.tmp 1)⟩,
    ⟨some 6, none, .fieldAddr 1 (.tmp 2)⟩,
    ⟨some 7, none, .load none (.tmp 6)⟩,
    ⟨some 8, none, .lenStr (.tmp 7)⟩,
    ⟨some 9, none, .bin .sub false (.tmp 5) (.tmp 8)⟩,
    ⟨some 1, none, .mov (.tmp 9)⟩])
  (.seq (.seq (.ops [⟨some 10, none, .mov (.tmp 1)⟩,
     ⟨some 11, none, .bin .lss false (.tmp 10) (.const (.int .i64 0))⟩])
   (.cond (.tmp 11)
    (.seq (.ops [⟨some 4, none, .mov (.const (.int .i64 (-1)))⟩])
     (.ret))
    (.skip)))
  (.seq (.ops [⟨some 12, none, .fieldAddr 2 (.tmp 2)⟩,
    ⟨some 13, none, .load none (.tmp 12)⟩,
    ⟨some 14, none, .mov (.tmp 1)⟩,
    ⟨some 15, none, .call 22 [.tmp 13, .tmp 14]⟩,
    ⟨some 1, none, .mov (.tmp 15)⟩])
  (.seq (.seq (.ops [⟨some 16, none, .mov (.tmp 1)⟩,
     ⟨some 17, none, .bin .lss false (.tmp 16) (.const (.int .i64 0))⟩])
   (.cond (.tmp 17)
    (.seq (.ops [⟨some 4, none, .mov (.const (.int .i64 (-1)))⟩])
     (.ret))
    (.skip)))
  (.seq (.ops [⟨some 18, none, .mov (.tmp 1)⟩,
    ⟨some 19, none, .fieldAddr 3 (.tmp 2)⟩,
    ⟨some 20, none, .load none (.tmp 19)⟩,
    ⟨some 21, none, .lenStr (.tmp 20)⟩,
    ⟨some 22, none, .bin .sub false (.tmp 18) (.tmp 21)⟩,
    ⟨some 1, none, .mov (.tmp 22)⟩])
  (.seq (.seq (.ops [⟨some 23, none, .mov (.tmp 1)⟩,
     ⟨some 24, none, .bin .lss false (.tmp 23) (.const (.int .i64 0))⟩])
   (.cond (.tmp 24)
    (.seq (.ops [⟨some 4, none, .mov (.const (.int .i64 (-1)))⟩])
     (.ret))
    (.skip)))
  (.seq (.ops [⟨some 25, none, .mov (.tmp 1)⟩,
    ⟨some 4, none, .mov (.tmp 25)⟩])
  (.ret))))))))
def lf_laws_szChange : LF := { np := 2, N := 26, body := c_laws_szChange, res := [.tmp 4] }
theorem low_laws_szChange : LowF Try.prog Try.f59 lf_laws_szChange := LowF.mk' (by kernel_rfl) (by kernel_rfl) (by kernel_rfl) (by decide)

/-- laws.toChange -/
def c_laws_toChange : LC :=
  .seq (.ops [⟨some 1, none, .box 86 (.tmp 0)⟩,
    ⟨some 2, none, .alloc 90 (.agg #[.int .i64 0, .string ⟨#[]⟩, .slice none 0 0, .string ⟨#[]⟩])⟩])
  (.seq (.ops [⟨some 3, none, .alloc 90 (.agg #[.int .i64 0, .string ⟨#[]⟩, .slice none 0 0, .string ⟨#[]⟩])⟩])
  (.seq (.ops [⟨some 4, none, .fieldAddr 0 (.tmp 1)⟩,
    ⟨some 5, none, .load none (.tmp 4)⟩,
    ⟨some 6, none, .fieldAddr 0 (.tmp 3)⟩,
    ⟨none, none, .store 1 (.tmp 6) (.tmp 5)⟩])
  (.seq (.ops [⟨some 7, none, .fieldAddr 1 (.tmp 1)⟩,
    ⟨some 8, none, .load none (.tmp 7)⟩,
    ⟨some 9, none, .fieldAddr 1 (.tmp 3)⟩,
    ⟨none, none, .store 1 (.tmp 9) (.tmp 8)⟩])
  (.seq (.ops [⟨some 10, none, .fieldAddr 2 (.tmp 1)⟩,
    ⟨some 11, none, .load none (.tmp 10)⟩,
    ⟨some 12, none, .call 24 [.tmp 11]⟩,
    ⟨some 13, none, .fieldAddr 2 (.tmp 3)⟩,
    ⟨none, none, .store 1 (.tmp 13) (.tmp 12)⟩])
  (.seq (.ops [⟨some 14, none, .fieldAddr 3 (.tmp 1)⟩,
    ⟨some 15, none, .load none (.tmp 14)⟩,
    ⟨some 16, none, .fieldAddr 3 (.tmp 3)⟩,
    ⟨none, none, .store 1 (.tmp 16) (.tmp 15)⟩])
  (.seq (.ops [⟨some 17, none, .load (some 4) (.tmp 3)⟩,
    ⟨none, none, .store 4 (.tmp 2) (.tmp 17)⟩])
  (.ret)))))))
def lf_laws_toChange : LF := { np := 1, N := 18, body := c_laws_toChange, res := [.cell 2 (some 4)] }
theorem low_laws_toChange : LowF Try.prog Try.f61 lf_laws_toChange := LowF.mk' (by kernel_rfl) (by kernel_rfl) (by kernel_rfl) (by decide)

/-- laws.eqChange -/
def c_laws_eqChange : LC :=
  .seq (.ops [⟨some 2, none, .box 90 (.tmp 0)⟩,
    ⟨some 3, none, .box 90 (.tmp 1)⟩,
    ⟨some 4, none, .mov (.const (.bool false))⟩])
  (.seq (.seq (.ops [⟨some 5, none, .fieldAddr 0 (.tmp 2)⟩,
     ⟨some 6, none, .load none (.tmp 5)⟩,
     ⟨some 7, none, .fieldAddr 0 (.tmp 3)⟩,
     ⟨some 8, none, .load none (.tmp 7)⟩,
     ⟨some 9, none, .bin .neq false (.tmp 6) (.tmp 8)⟩])
   (.cond (.tmp 9)
    (.seq (.ops [⟨some 4, none, .mov (.const (.bool false))⟩])
     (.ret))
    (.skip)))
  (.seq (.seq (.ops [⟨some 10, none, .fieldAddr 1 (.tmp 2)⟩,
     ⟨some 11, none, .load none (.tmp 10)⟩,
     ⟨some 12, none, .fieldAddr 1 (.tmp 3)⟩,
     ⟨some 13, none, .load none (.tmp 12)⟩,
     ⟨some 14, none, .bin .neq false (.tmp 11) (.tmp 13)⟩])
   (.cond (.tmp 14)
    (.seq (.ops [⟨some 4, none, .mov (.const (.bool false))⟩])
     (.ret))
    (.skip)))
  (.seq (.seq (.ops [⟨some 15, none, .fieldAddr 2 (.tmp 2)⟩,
     ⟨some 16, none, .load none (.tmp 15)⟩,
     ⟨some 17, none, .fieldAddr 2 (.tmp 3)⟩,
     ⟨some 18, none, .load none (.tmp 17)⟩,
     ⟨some 19, none, .call 26 [.tmp 16, .tmp 18]⟩,
     ⟨some 20, none, .un .not (.tmp 19)⟩])
   (.cond (.tmp 20)
    (.seq (.ops [⟨some 4, none, .mov (.const (.bool false))⟩])
     (.ret))
    (.skip)))
  (.seq (.seq (.ops [⟨some 21, none, .fieldAddr 3 (.tmp 2)⟩,
     ⟨some 22, none, .load none (.tmp 21)⟩,
     ⟨some 23, none, .fieldAddr 3 (.tmp 3)⟩,
     ⟨some 24, none, .load none (.tmp 23)⟩,
     ⟨some 25, none, .bin .neq false (.tmp 22) (.tmp 24)⟩])
   (.cond (.tmp 25)
    (.seq (.ops [⟨some 4, none, .mov (.const (.bool false))⟩])
     (.ret))
    (.skip)))
  (.seq (.ops [⟨some 4, none, .mov (.const (.bool true))⟩])
  (.ret))))))
def lf_laws_eqChange : LF := { np := 2, N := 26, body := c_laws_eqChange, res := [.tmp 4] }
theorem low_laws_eqChange : LowF Try.prog Try.f63 lf_laws_eqChange := LowF.mk' (by kernel_rfl) (by kernel_rfl) (by kernel_rfl) (by decide)

/-- laws.eqInt64S -/
def c_laws_eqInt64S : LC :=
  .seq (.ops [⟨some 4, none, .mov (.const (.bool false))⟩])
  (.seq (.seq (.ops [⟨some 6, none, .mov (.tmp 0)⟩,
     ⟨some 7, none, .lenSl (.tmp 6)⟩,
     ⟨some 8, none, .mov (.tmp 1)⟩,
     ⟨some 9, none, .lenSl (.tmp 8)⟩,
     ⟨some 10, none, .bin .neq false (.tmp 7) (.tmp 9)⟩])
   (.cond (.tmp 10)
    (.seq (.ops [⟨some 4, none, .mov (.const (.bool false))⟩])
     (.ret))
    (.skip)))
  (.seq (.seq (.ops [⟨some 5, none, .mov (.const (.int .i64 0))⟩])
   (.block 0 (.loop (.seq (.seq (.ops [⟨some 11, none, .mov (.tmp 5)⟩,
        ⟨some 12, none, .mov (.tmp 0)⟩,
        ⟨some 13, none, .lenSl (.tmp 12)⟩,
        ⟨some 14, none, .bin .lss false (.tmp 11) (.tmp 13)⟩])
      (.cond (.tmp 14)
       (.skip)
       (.exit 0)))
     (.seq (.block 1 (.seq (.dops [⟨some 17, none, .mov (.tmp 0)⟩,
         ⟨some 18, none, .mov (.tmp 5)⟩,
         ⟨some 19, none, .indexAddr 1 (.tmp 17) (.tmp 18)⟩,
         ⟨some 20, none, .load none (.tmp 19)⟩,
         ⟨some 21, none, .mov (.tmp 1)⟩,
         ⟨some 22, none, .mov (.tmp 5)⟩,
         ⟨some 23, none, .indexAddr 1 (.tmp 21) (.tmp 22)⟩,
         ⟨some 24, none, .load none (.tmp 23)⟩,
         ⟨some 25, none, .bin .neq false (.tmp 20) (.tmp 24)⟩])
       (.cond (.tmp 25)
        (.seq (.ops [⟨some 4, none, .mov (.const (.bool false))⟩])
         (.ret))
        (.skip))))
     (.ops [⟨some 15, none, .mov (.tmp 5)⟩,
      ⟨some 16, none, .bin .add false (.tmp 15) (.const (.int .i64 1))⟩,
      ⟨some 5, none, .mov (.tmp 16)⟩]))))))
  (.seq (.ops [⟨some 4, none, .mov (.const (.bool true))⟩])
  (.ret))))
def lf_laws_eqInt64S : LF := { np := 2, N := 26, body := c_laws_eqInt64S, res := [.tmp 4] }
theorem low_laws_eqInt64S : LowF Try.prog Try.f70 lf_laws_eqInt64S := LowF.mk' (by kernel_rfl) (by kernel_rfl) (by kernel_rfl) (by decide)

theorem szStringS_ok (xs : List ByteArray) (l : Int) (h0 : 0 ≤ l) (h1 : l ≤ 1048576) (hw : wfList wfStr xs) (h : List Row) : PureCall Try.prog 22 [.list 0 1 (xs.map cStr), .val (.int .i64 l)] h (.val (.int .i64 (szR (szList ByteArray.size xs) l))) := by
  obtain ⟨hx, hs⟩ := hw
  refine pure_fn mixed Try.func22 low_laws_szStringS rfl rfl ?_ h
  simp (disch := omega) only [lf_laws_szStringS, c_laws_szStringS, Ex_cond, go_sem, Nat.reduceEqDiff, Nat.reduceAdd, Nat.reduceLeDiff, reduceCtorEq, Int.reduceLT, Int.reduceLE, Int.reduceNeg, Int.reduceSub, Int.reduceAdd, ↓reduceIte, wrap_in]
  refine ⟨fun hn => ?_, fun hn => ?_⟩
  · rw [szR_neg (by simp only [szList]; omega)]; exact resolve_val _ _
  · refine Ex_loop (fun n t h => ∃ (k : Nat) (m : Int), t 0 = .list 0 1 (xs.map cStr) ∧ t 5 = .val (.int .i64 k) ∧ t 1 = .val (.int .i64 m) ∧ h = [] ∧ n = xs.length - k ∧ k ≤ xs.length ∧ 0 ≤ m ∧ m ≤ 1048576 ∧ szR (szList ByteArray.size xs) l = szR (sumOf ByteArray.size (xs.drop k)) m) xs.length ?_ ?_
    · exact ⟨0, l - xs.length, rfl, rfl, rfl, rfl, rfl, Nat.zero_le _, by omega, by omega, szR_sub (by omega)⟩
    · rintro J hJ n t h ⟨k, m, t0, t5, t1, rfl, rfl, hk, hm0, hm1, hS⟩
      by_cases hlt : k < xs.length
      · have hd := sumOf_drop ByteArray.size xs k hlt
        have hwk := hs _ (List.getElem_mem hlt)
        rw [hd] at hS
        unfold wfStr at hwk
        simp (disch := omega) only [t0, t5, t1, hlt, Ex_cond, go_sem, Nat.reduceEqDiff, Nat.reduceAdd, Nat.reduceLeDiff, reduceCtorEq, Int.reduceLT, Int.reduceLE, Int.reduceNeg, Int.reduceSub, Int.reduceAdd, ↓reduceIte, wrap_in]
        refine ⟨fun hn2 => ?_, fun hn2 => ?_⟩
        · rw [hS, szR_neg (by omega)]; exact resolve_val _ _
        · exact ⟨xs.length - (k + 1), by omega, hJ _ _ _ ⟨k + 1, m - xs[k].size, by simp [upd, t0], by simp [upd], by simp [upd], rfl, rfl, by omega, by omega, by omega, by rw [hS, szR_sub (by omega)]⟩⟩
      · simp (disch := omega) only [t0, t5, t1, hlt, Ex_cond, go_sem, Nat.reduceEqDiff, Nat.reduceAdd, Nat.reduceLeDiff, reduceCtorEq, Int.reduceLT, Int.reduceLE, Int.reduceNeg, Int.reduceSub, Int.reduceAdd, ↓reduceIte]
        rw [hS, List.drop_eq_nil_of_le (by omega), szR_pos (by simp only [sumOf]; omega)]
        simp only [sumOf, Int.natCast_zero, Int.sub_zero]
        exact resolve_val _ _

theorem toStringS_ok (xs : List ByteArray) (hb : (szList ByteArray.size) xs ≤ 1048576) (h : List Row) : PureCall Try.prog 24 [.list 0 1 (xs.map cStr)] h (.list 0 1 (xs.map cStr)) := by
  have hx := Nat.le_trans (szList_length (f := ByteArray.size) (xs := xs)) hb
  refine pure_fn mixed Try.func24 low_laws_toStringS rfl rfl ?_ h
  simp (disch := omega) only [lf_laws_toStringS, c_laws_toStringS, Ex_cond, go_sem, Nat.reduceEqDiff, Nat.reduceAdd, Nat.reduceLeDiff, reduceCtorEq, Int.reduceLT, Int.reduceLE, Int.reduceNeg, Int.reduceSub, Int.reduceAdd, ↓reduceIte, wrap_in]
  refine ⟨by omega, by omega, ?_⟩
  refine Ex_loop (fun n t h => ∃ k : Nat, t 0 = .list 0 1 (xs.map cStr) ∧ t 3 = .own 0 xs.length ∧ t 4 = .val (.int .i64 k) ∧ h = [⟨9, 1, fillTo (xs.map cStr) [.val (.string ⟨#[]⟩)] k⟩] ∧ n = xs.length - k ∧ k ≤ xs.length) xs.length ?_ ?_
  · exact ⟨0, rfl, rfl, rfl, by rw [fillTo_zero]; simp, rfl, Nat.zero_le _⟩
  · rintro J hJ n t h ⟨k, t0, t3, t4, rfl, rfl, hk⟩
    have fl : (fillTo (xs.map cStr) [.val (.string ⟨#[]⟩)] k).length = xs.length := by rw [fillTo_length _ _ (by simpa using hk)]; simp
    by_cases hlt : k < xs.length
    · have fg : (fillTo (xs.map cStr) [.val (.string ⟨#[]⟩)] k)[k]? = some [.val (.string ⟨#[]⟩)] := fillTo_get _ _ (by simpa using hlt)
      have fs := fillTo_set' (xs.map cStr) [.val (.string ⟨#[]⟩)] (cStr xs[k]) (k := k) (by rw [List.getElem?_map, List.getElem?_eq_getElem hlt]; rfl)
      simp (disch := omega) only [t0, t3, t4, hlt, fl, fg, Ex_cond, go_sem, Nat.reduceEqDiff, Nat.reduceAdd, Nat.reduceLeDiff, reduceCtorEq, Int.reduceLT, Int.reduceLE, Int.reduceNeg, Int.reduceSub, Int.reduceAdd, ↓reduceIte, wrap_in]
      try simp (disch := omega) only [fs, fl, fg, Ex_cond, go_sem, Nat.reduceEqDiff, Nat.reduceAdd, Nat.reduceLeDiff, reduceCtorEq, Int.reduceLT, Int.reduceLE, Int.reduceNeg, Int.reduceSub, Int.reduceAdd, ↓reduceIte, wrap_in]
      exact ⟨xs.length - (k + 1), by omega, hJ _ _ _ ⟨k + 1, by simp [upd, t0], by simp [upd, t3], by simp [upd], by simp [fs], rfl, by omega⟩⟩
    · simp (disch := omega) only [t0, t3, t4, hlt, fl, Ex_cond, go_sem, Nat.reduceEqDiff, Nat.reduceAdd, Nat.reduceLeDiff, reduceCtorEq, Int.reduceLT, Int.reduceLE, Int.reduceNeg, Int.reduceSub, Int.reduceAdd, ↓reduceIte, wrap_in]
      have ff : fillTo (xs.map cStr) [.val (.string ⟨#[]⟩)] k = xs.map cStr := fillTo_all _ _ (by simp; omega)
      rw [ff]
      exact resolve_own (r := ⟨9, 1, xs.map cStr⟩) rfl (by simp) (by intro e he; obtain ⟨x, _, q⟩ := List.mem_map.1 he; subst q; rfl)

theorem eqStringS_ok (xs : List ByteArray) (hb : (szList ByteArray.size) xs ≤ 1048576) (h : List Row) : PureCall Try.prog 26 [.list 0 1 (xs.map cStr), .list 0 1 (xs.map cStr)] h (.val (.bool true)) := by
  have hx := Nat.le_trans (szList_length (f := ByteArray.size) (xs := xs)) hb
  refine pure_fn mixed Try.func26 low_laws_eqStringS rfl rfl ?_ h
  simp (disch := omega) only [lf_laws_eqStringS, c_laws_eqStringS, Ex_cond, go_sem, Nat.reduceEqDiff, Nat.reduceAdd, Nat.reduceLeDiff, reduceCtorEq, Int.reduceLT, Int.reduceLE, Int.reduceNeg, Int.reduceSub, Int.reduceAdd, ↓reduceIte, wrap_in]
  refine Ex_loop (fun n t h => ∃ k : Nat, t 0 = .list 0 1 (xs.map cStr) ∧ t 1 = .list 0 1 (xs.map cStr) ∧ t 5 = .val (.int .i64 k) ∧ h = [] ∧ n = xs.length - k ∧ k ≤ xs.length) xs.length ?_ ?_
  · exact ⟨0, rfl, rfl, rfl, rfl, rfl, Nat.zero_le _⟩
  · rintro J hJ n t h ⟨k, t0, t1, t5, rfl, rfl, hk⟩
    by_cases hlt : k < xs.length
    · simp (disch := omega) only [t0, t1, t5, hlt, Ex_cond, go_sem, Nat.reduceEqDiff, Nat.reduceAdd, Nat.reduceLeDiff, reduceCtorEq, Int.reduceLT, Int.reduceLE, Int.reduceNeg, Int.reduceSub, Int.reduceAdd, ↓reduceIte, wrap_in]
      exact ⟨xs.length - (k + 1), by omega, hJ _ _ _ ⟨k + 1, by simp [upd, t0], by simp [upd, t1], by simp [upd], rfl, rfl, by omega⟩⟩
    · simp (disch := omega) only [t0, t1, t5, hlt, Ex_cond, go_sem, Nat.reduceEqDiff, Nat.reduceAdd, Nat.reduceLeDiff, reduceCtorEq, Int.reduceLT, Int.reduceLE, Int.reduceNeg, Int.reduceSub, Int.reduceAdd, ↓reduceIte, wrap_in]
      exact resolve_val _ _

theorem szEvent_ok (x : GEvent) (l : Int) (h0 : 0 ≤ l) (h1 : l ≤ 1048576) (hw : GEvent.wf x) (h : List Row) : PureCall Try.prog 15 [.agg (GEvent.cells x), .val (.int .i64 l)] h (.val (.int .i64 (szR (GEvent.sz x) l))) := by
  obtain ⟨w_Kind, w_Name, w_Subs, w_Value, w_N, _⟩ := hw
  have hsz : GEvent.sz x = ByteArray.size x.Name + (szList ByteArray.size) x.Subs + ByteArray.size x.Value := rfl
  refine pure_fn mixed Try.func15 low_laws_szEvent rfl rfl ?_ h
  unfold wfStr at w_Name
  unfold wfStr at w_Value
  simp (disch := omega) only [lf_laws_szEvent, c_laws_szEvent, GEvent.cells, Ex_cond, go_sem, Nat.reduceEqDiff, Nat.reduceAdd, Nat.reduceLeDiff, reduceCtorEq, Int.reduceLT, Int.reduceLE, Int.reduceNeg, Int.reduceSub, Int.reduceAdd, ↓reduceIte, wrap_in]
  refine ⟨fun hn => ?_, fun hn_Name => ?_⟩
  · rw [szR_neg (by omega)]; exact resolve_val _ _
  try simp (disch := omega) only [wrap_in]
  refine PureCall.call (szStringS_ok x.Subs (l - ByteArray.size x.Name) (by omega) (by omega) w_Subs _) ?_
  by_cases hn_Subs : ((szList ByteArray.size) x.Subs : Int) ≤ l - ByteArray.size x.Name
  case neg =>
    rw [szR_neg (n := (szList ByteArray.size) x.Subs) (l := l - ByteArray.size x.Name) (by omega)]
    simp (disch := omega) only [Ex_cond, go_sem, Nat.reduceEqDiff, Nat.reduceAdd, Nat.reduceLeDiff, reduceCtorEq, Int.reduceLT, Int.reduceLE, Int.reduceNeg, Int.reduceSub, Int.reduceAdd, ↓reduceIte, wrap_in]
    rw [szR_neg (by omega)]; exact resolve_val _ _
  rw [szR_pos (n := (szList ByteArray.size) x.Subs) (l := l - ByteArray.size x.Name) hn_Subs]
  simp (disch := omega) only [Ex_cond, go_sem, Nat.reduceEqDiff, Nat.reduceAdd, Nat.reduceLeDiff, reduceCtorEq, Int.reduceLT, Int.reduceLE, Int.reduceNeg, Int.reduceSub, Int.reduceAdd, ↓reduceIte, wrap_in]
  refine ⟨fun hn => absurd hn (by omega), fun _ => ?_⟩
  refine ⟨fun hn => ?_, fun hn_Value => ?_⟩
  · rw [szR_neg (by omega)]; exact resolve_val _ _
  try simp (disch := omega) only [wrap_in]
  rw [szR_pos (by omega), hsz]
  have hfin : l - ((ByteArray.size x.Name + (szList ByteArray.size) x.Subs + ByteArray.size x.Value : Nat) : Int) = l - ByteArray.size x.Name - (szList ByteArray.size) x.Subs - ByteArray.size x.Value := by omega
  rw [hfin]; exact resolve_val _ _

theorem toEvent_ok (x : GEvent) (hb : GEvent.sz x ≤ 1048576) (h : List Row) : PureCall Try.prog 17 [.agg (GEvent.cells x)] h (.agg (GEvent.cells x)) := by
  have hsz : GEvent.sz x = ByteArray.size x.Name + (szList ByteArray.size) x.Subs + ByteArray.size x.Value := rfl
  refine pure_fn mixed Try.func17 low_laws_toEvent rfl rfl ?_ h
  simp (disch := omega) only [lf_laws_toEvent, c_laws_toEvent, GEvent.cells, Ex_cond, go_sem, Nat.reduceEqDiff, Nat.reduceAdd, Nat.reduceLeDiff, reduceCtorEq, Int.reduceLT, Int.reduceLE, Int.reduceNeg, Int.reduceSub, Int.reduceAdd, ↓reduceIte, post_cell]
  refine PureCall.call (toStringS_ok x.Subs (by omega) _) ?_
  simp (disch := omega) only [Ex_cond, go_sem, Nat.reduceEqDiff, Nat.reduceAdd, Nat.reduceLeDiff, reduceCtorEq, Int.reduceLT, Int.reduceLE, Int.reduceNeg, Int.reduceSub, Int.reduceAdd, ↓reduceIte, post_cell]
  exact resolve_agg _ _ rfl

theorem eqEvent_ok (x : GEvent) (hb : GEvent.sz x ≤ 1048576) (h : List Row) : PureCall Try.prog 19 [.agg (GEvent.cells x), .agg (GEvent.cells x)] h (.val (.bool true)) := by
  have hsz : GEvent.sz x = ByteArray.size x.Name + (szList ByteArray.size) x.Subs + ByteArray.size x.Value := rfl
  refine pure_fn mixed Try.func19 low_laws_eqEvent rfl rfl ?_ h
  simp (disch := omega) only [lf_laws_eqEvent, c_laws_eqEvent, GEvent.cells, Ex_cond, go_sem, Nat.reduceEqDiff, Nat.reduceAdd, Nat.reduceLeDiff, reduceCtorEq, Int.reduceLT, Int.reduceLE, Int.reduceNeg, Int.reduceSub, Int.reduceAdd, ↓reduceIte]
  refine PureCall.call (eqStringS_ok x.Subs (by omega) _) ?_
  simp (disch := omega) only [Ex_cond, go_sem, Nat.reduceEqDiff, Nat.reduceAdd, Nat.reduceLeDiff, reduceCtorEq, Int.reduceLT, Int.reduceLE, Int.reduceNeg, Int.reduceSub, Int.reduceAdd, ↓reduceIte]
  exact resolve_val _ _

theorem szRow_ok (x : GRow) (l : Int) (h0 : 0 ≤ l) (h1 : l ≤ 1048576) (hw : GRow.wf x) (h : List Row) : PureCall Try.prog 78 [.agg (GRow.cells x), .val (.int .i64 l)] h (.val (.int .i64 (szR (GRow.sz x) l))) := by
  obtain ⟨w_Cells, _⟩ := hw
  have hsz : GRow.sz x = (szList ByteArray.size) x.Cells := rfl
  refine pure_fn mixed Try.func78 low_laws_szRow rfl rfl ?_ h
  simp (disch := omega) only [lf_laws_szRow, c_laws_szRow, GRow.cells, Ex_cond, go_sem, Nat.reduceEqDiff, Nat.reduceAdd, Nat.reduceLeDiff, reduceCtorEq, Int.reduceLT, Int.reduceLE, Int.reduceNeg, Int.reduceSub, Int.reduceAdd, ↓reduceIte, wrap_in]
  refine PureCall.call (szStringS_ok x.Cells (l) (by omega) (by omega) w_Cells _) ?_
  by_cases hn_Cells : ((szList ByteArray.size) x.Cells : Int) ≤ l
  case neg =>
    rw [szR_neg (n := (szList ByteArray.size) x.Cells) (l := l) (by omega)]
    simp (disch := omega) only [Ex_cond, go_sem, Nat.reduceEqDiff, Nat.reduceAdd, Nat.reduceLeDiff, reduceCtorEq, Int.reduceLT, Int.reduceLE, Int.reduceNeg, Int.reduceSub, Int.reduceAdd, ↓reduceIte, wrap_in]
    rw [szR_neg (by omega)]; exact resolve_val _ _
  rw [szR_pos (n := (szList ByteArray.size) x.Cells) (l := l) hn_Cells]
  simp (disch := omega) only [Ex_cond, go_sem, Nat.reduceEqDiff, Nat.reduceAdd, Nat.reduceLeDiff, reduceCtorEq, Int.reduceLT, Int.reduceLE, Int.reduceNeg, Int.reduceSub, Int.reduceAdd, ↓reduceIte, wrap_in]
  refine ⟨fun hn => absurd hn (by omega), fun _ => ?_⟩
  rw [szR_pos (by omega), hsz]
  have hfin : l - (((szList ByteArray.size) x.Cells : Nat) : Int) = l - (szList ByteArray.size) x.Cells := by omega
  rw [hfin]; exact resolve_val _ _

theorem toRow_ok (x : GRow) (hb : GRow.sz x ≤ 1048576) (h : List Row) : PureCall Try.prog 80 [.agg (GRow.cells x)] h (.agg (GRow.cells x)) := by
  have hsz : GRow.sz x = (szList ByteArray.size) x.Cells := rfl
  refine pure_fn mixed Try.func80 low_laws_toRow rfl rfl ?_ h
  simp (disch := omega) only [lf_laws_toRow, c_laws_toRow, GRow.cells, Ex_cond, go_sem, Nat.reduceEqDiff, Nat.reduceAdd, Nat.reduceLeDiff, reduceCtorEq, Int.reduceLT, Int.reduceLE, Int.reduceNeg, Int.reduceSub, Int.reduceAdd, ↓reduceIte, post_cell]
  refine PureCall.call (toStringS_ok x.Cells (by omega) _) ?_
  simp (disch := omega) only [Ex_cond, go_sem, Nat.reduceEqDiff, Nat.reduceAdd, Nat.reduceLeDiff, reduceCtorEq, Int.reduceLT, Int.reduceLE, Int.reduceNeg, Int.reduceSub, Int.reduceAdd, ↓reduceIte, post_cell]
  exact resolve_agg _ _ rfl

theorem eqRow_ok (x : GRow) (hb : GRow.sz x ≤ 1048576) (h : List Row) : PureCall Try.prog 84 [.agg (GRow.cells x), .agg (GRow.cells x)] h (.val (.bool true)) := by
  have hsz : GRow.sz x = (szList ByteArray.size) x.Cells := rfl
  refine pure_fn mixed Try.func84 low_laws_eqRow rfl rfl ?_ h
  simp (disch := omega) only [lf_laws_eqRow, c_laws_eqRow, GRow.cells, Ex_cond, go_sem, Nat.reduceEqDiff, Nat.reduceAdd, Nat.reduceLeDiff, reduceCtorEq, Int.reduceLT, Int.reduceLE, Int.reduceNeg, Int.reduceSub, Int.reduceAdd, ↓reduceIte]
  refine PureCall.call (eqStringS_ok x.Cells (by omega) _) ?_
  simp (disch := omega) only [Ex_cond, go_sem, Nat.reduceEqDiff, Nat.reduceAdd, Nat.reduceLeDiff, reduceCtorEq, Int.reduceLT, Int.reduceLE, Int.reduceNeg, Int.reduceSub, Int.reduceAdd, ↓reduceIte]
  exact resolve_val _ _

theorem szRowS_ok (xs : List GRow) (l : Int) (h0 : 0 ≤ l) (h1 : l ≤ 1048576) (hw : wfList GRow.wf xs) (h : List Row) : PureCall Try.prog 27 [.list 0 1 (xs.map GRow.cells), .val (.int .i64 l)] h (.val (.int .i64 (szR (szList GRow.sz xs) l))) := by
  obtain ⟨hx, hs⟩ := hw
  refine pure_fn mixed Try.func27 low_laws_szRowS rfl rfl ?_ h
  simp (disch := omega) only [lf_laws_szRowS, c_laws_szRowS, Ex_cond, go_sem, Nat.reduceEqDiff, Nat.reduceAdd, Nat.reduceLeDiff, reduceCtorEq, Int.reduceLT, Int.reduceLE, Int.reduceNeg, Int.reduceSub, Int.reduceAdd, ↓reduceIte, wrap_in]
  refine ⟨fun hn => ?_, fun hn => ?_⟩
  · rw [szR_neg (by simp only [szList]; omega)]; exact resolve_val _ _
  · refine Ex_loop (fun n t h => ∃ (k : Nat) (m : Int), t 0 = .list 0 1 (xs.map GRow.cells) ∧ t 5 = .val (.int .i64 k) ∧ t 1 = .val (.int .i64 m) ∧ h = [] ∧ n = xs.length - k ∧ k ≤ xs.length ∧ 0 ≤ m ∧ m ≤ 1048576 ∧ szR (szList GRow.sz xs) l = szR (sumOf GRow.sz (xs.drop k)) m) xs.length ?_ ?_
    · exact ⟨0, l - xs.length, rfl, rfl, rfl, rfl, rfl, Nat.zero_le _, by omega, by omega, szR_sub (by omega)⟩
    · rintro J hJ n t h ⟨k, m, t0, t5, t1, rfl, rfl, hk, hm0, hm1, hS⟩
      by_cases hlt : k < xs.length
      · have hd := sumOf_drop GRow.sz xs k hlt
        have hwk := hs _ (List.getElem_mem hlt)
        rw [hd] at hS
        simp (disch := omega) only [t0, t5, t1, hlt, GRow.cells, Ex_cond, go_sem, Nat.reduceEqDiff, Nat.reduceAdd, Nat.reduceLeDiff, reduceCtorEq, Int.reduceLT, Int.reduceLE, Int.reduceNeg, Int.reduceSub, Int.reduceAdd, ↓reduceIte, wrap_in]
        refine PureCall.call (szRow_ok xs[k] m hm0 hm1 hwk []) ?_
        by_cases hc : (GRow.sz xs[k] : Int) ≤ m
        · rw [szR_pos (n := GRow.sz xs[k]) (l := m) hc]
          simp (disch := omega) only [t0, t5, t1, Ex_cond, go_sem, Nat.reduceEqDiff, Nat.reduceAdd, Nat.reduceLeDiff, reduceCtorEq, Int.reduceLT, Int.reduceLE, Int.reduceNeg, Int.reduceSub, Int.reduceAdd, ↓reduceIte, wrap_in]
          refine ⟨fun hn2 => absurd hn2 (by omega), fun _ => ?_⟩
          exact ⟨xs.length - (k + 1), by omega, hJ _ _ _ ⟨k + 1, m - GRow.sz xs[k], by simp [upd, t0], by simp [upd], by simp [upd], rfl, rfl, by omega, by omega, by omega, by rw [hS, szR_sub (by omega)]⟩⟩
        · rw [szR_neg (n := GRow.sz xs[k]) (l := m) (by omega)]
          simp (disch := omega) only [t0, t5, t1, Ex_cond, go_sem, Nat.reduceEqDiff, Nat.reduceAdd, Nat.reduceLeDiff, reduceCtorEq, Int.reduceLT, Int.reduceLE, Int.reduceNeg, Int.reduceSub, Int.reduceAdd, ↓reduceIte, wrap_in]
          rw [hS, szR_neg (by omega)]; exact resolve_val _ _
      · simp (disch := omega) only [t0, t5, t1, hlt, Ex_cond, go_sem, Nat.reduceEqDiff, Nat.reduceAdd, Nat.reduceLeDiff, reduceCtorEq, Int.reduceLT, Int.reduceLE, Int.reduceNeg, Int.reduceSub, Int.reduceAdd, ↓reduceIte]
        rw [hS, List.drop_eq_nil_of_le (by omega), szR_pos (by simp only [sumOf]; omega)]
        simp only [sumOf, Int.natCast_zero, Int.sub_zero]
        exact resolve_val _ _

theorem toRowS_ok (xs : List GRow) (hb : (szList GRow.sz) xs ≤ 1048576) (h : List Row) : PureCall Try.prog 29 [.list 0 1 (xs.map GRow.cells)] h (.list 0 1 (xs.map GRow.cells)) := by
  have hx := Nat.le_trans (szList_length (f := GRow.sz) (xs := xs)) hb
  refine pure_fn mixed Try.func29 low_laws_toRowS rfl rfl ?_ h
  simp (disch := omega) only [lf_laws_toRowS, c_laws_toRowS, Ex_cond, go_sem, Nat.reduceEqDiff, Nat.reduceAdd, Nat.reduceLeDiff, reduceCtorEq, Int.reduceLT, Int.reduceLE, Int.reduceNeg, Int.reduceSub, Int.reduceAdd, ↓reduceIte, wrap_in]
  refine ⟨by omega, by omega, ?_⟩
  refine Ex_loop (fun n t h => ∃ k : Nat, t 0 = .list 0 1 (xs.map GRow.cells) ∧ t 3 = .own 0 xs.length ∧ t 4 = .val (.int .i64 k) ∧ h = [⟨106, 1, fillTo (xs.map GRow.cells) [.val (.slice none 0 0)] k⟩] ∧ n = xs.length - k ∧ k ≤ xs.length) xs.length ?_ ?_
  · exact ⟨0, rfl, rfl, rfl, by rw [fillTo_zero]; simp, rfl, Nat.zero_le _⟩
  · rintro J hJ n t h ⟨k, t0, t3, t4, rfl, rfl, hk⟩
    have fl : (fillTo (xs.map GRow.cells) [.val (.slice none 0 0)] k).length = xs.length := by rw [fillTo_length _ _ (by simpa using hk)]; simp
    by_cases hlt : k < xs.length
    · have fg : (fillTo (xs.map GRow.cells) [.val (.slice none 0 0)] k)[k]? = some [.val (.slice none 0 0)] := fillTo_get _ _ (by simpa using hlt)
      have fs := fillTo_set' (xs.map GRow.cells) [.val (.slice none 0 0)] (GRow.cells xs[k]) (k := k) (by rw [List.getElem?_map, List.getElem?_eq_getElem hlt]; rfl)
      simp only [GRow.cells] at fs
      simp (disch := omega) only [t0, t3, t4, hlt, fl, fg, GRow.cells, Ex_cond, go_sem, Nat.reduceEqDiff, Nat.reduceAdd, Nat.reduceLeDiff, reduceCtorEq, Int.reduceLT, Int.reduceLE, Int.reduceNeg, Int.reduceSub, Int.reduceAdd, ↓reduceIte, wrap_in]
      refine PureCall.call (toRow_ok xs[k] (by have := szList_mem (f := GRow.sz) (List.getElem_mem hlt); omega) _) ?_
      simp (disch := omega) only [t0, t3, t4, hlt, fl, fg, fs, GRow.cells, Ex_cond, go_sem, Nat.reduceEqDiff, Nat.reduceAdd, Nat.reduceLeDiff, reduceCtorEq, Int.reduceLT, Int.reduceLE, Int.reduceNeg, Int.reduceSub, Int.reduceAdd, ↓reduceIte, wrap_in]
      exact ⟨xs.length - (k + 1), by omega, hJ _ _ _ ⟨k + 1, by simp [upd, t0], by simp [upd, t3], by simp [upd], rfl, rfl, by omega⟩⟩
    · simp (disch := omega) only [t0, t3, t4, hlt, fl, Ex_cond, go_sem, Nat.reduceEqDiff, Nat.reduceAdd, Nat.reduceLeDiff, reduceCtorEq, Int.reduceLT, Int.reduceLE, Int.reduceNeg, Int.reduceSub, Int.reduceAdd, ↓reduceIte, wrap_in]
      have ff : fillTo (xs.map GRow.cells) [.val (.slice none 0 0)] k = xs.map GRow.cells := fillTo_all _ _ (by simp; omega)
      rw [ff]
      exact resolve_own (r := ⟨106, 1, xs.map GRow.cells⟩) rfl (by simp) (by intro e he; obtain ⟨x, _, q⟩ := List.mem_map.1 he; subst q; rfl)

theorem eqRowS_ok (xs : List GRow) (hb : (szList GRow.sz) xs ≤ 1048576) (h : List Row) : PureCall Try.prog 31 [.list 0 1 (xs.map GRow.cells), .list 0 1 (xs.map GRow.cells)] h (.val (.bool true)) := by
  have hx := Nat.le_trans (szList_length (f := GRow.sz) (xs := xs)) hb
  refine pure_fn mixed Try.func31 low_laws_eqRowS rfl rfl ?_ h
  simp (disch := omega) only [lf_laws_eqRowS, c_laws_eqRowS, Ex_cond, go_sem, Nat.reduceEqDiff, Nat.reduceAdd, Nat.reduceLeDiff, reduceCtorEq, Int.reduceLT, Int.reduceLE, Int.reduceNeg, Int.reduceSub, Int.reduceAdd, ↓reduceIte, wrap_in]
  refine Ex_loop (fun n t h => ∃ k : Nat, t 0 = .list 0 1 (xs.map GRow.cells) ∧ t 1 = .list 0 1 (xs.map GRow.cells) ∧ t 5 = .val (.int .i64 k) ∧ h = [] ∧ n = xs.length - k ∧ k ≤ xs.length) xs.length ?_ ?_
  · exact ⟨0, rfl, rfl, rfl, rfl, rfl, Nat.zero_le _⟩
  · rintro J hJ n t h ⟨k, t0, t1, t5, rfl, rfl, hk⟩
    by_cases hlt : k < xs.length
    · simp (disch := omega) only [t0, t1, t5, hlt, GRow.cells, Ex_cond, go_sem, Nat.reduceEqDiff, Nat.reduceAdd, Nat.reduceLeDiff, reduceCtorEq, Int.reduceLT, Int.reduceLE, Int.reduceNeg, Int.reduceSub, Int.reduceAdd, ↓reduceIte, wrap_in]
      refine PureCall.q (eqRow_ok xs[k] (by have := szList_mem (f := GRow.sz) (List.getElem_mem hlt); omega) _) ?_
      simp (disch := omega) only [t0, t1, t5, hlt, GRow.cells, Ex_cond, go_sem, Nat.reduceEqDiff, Nat.reduceAdd, Nat.reduceLeDiff, reduceCtorEq, Int.reduceLT, Int.reduceLE, Int.reduceNeg, Int.reduceSub, Int.reduceAdd, ↓reduceIte, wrap_in]
      exact ⟨xs.length - (k + 1), by omega, hJ _ _ _ ⟨k + 1, by simp [upd, t0], by simp [upd, t1], by simp [upd], rfl, rfl, by omega⟩⟩
    · simp (disch := omega) only [t0, t1, t5, hlt, Ex_cond, go_sem, Nat.reduceEqDiff, Nat.reduceAdd, Nat.reduceLeDiff, reduceCtorEq, Int.reduceLT, Int.reduceLE, Int.reduceNeg, Int.reduceSub, Int.reduceAdd, ↓reduceIte, wrap_in]
      exact resolve_val _ _

theorem szTrigger_ok (x : GTrigger) (l : Int) (h0 : 0 ≤ l) (h1 : l ≤ 1048576) (hw : GTrigger.wf x) (h : List Row) : PureCall Try.prog 32 [.agg (GTrigger.cells x), .val (.int .i64 l)] h (.val (.int .i64 (szR (GTrigger.sz x) l))) := by
  obtain ⟨w_Id, w_Name, w_Subs, w_OnSet, w_OnKill, w_Routine, w_Label, _⟩ := hw
  have hsz : GTrigger.sz x = ByteArray.size x.Name + (szList ByteArray.size) x.Subs + ByteArray.size x.Routine + ByteArray.size x.Label := rfl
  refine pure_fn mixed Try.func32 low_laws_szTrigger rfl rfl ?_ h
  unfold wfStr at w_Name
  unfold wfStr at w_Routine
  unfold wfStr at w_Label
  simp (disch := omega) only [lf_laws_szTrigger, c_laws_szTrigger, GTrigger.cells, Ex_cond, go_sem, Nat.reduceEqDiff, Nat.reduceAdd, Nat.reduceLeDiff, reduceCtorEq, Int.reduceLT, Int.reduceLE, Int.reduceNeg, Int.reduceSub, Int.reduceAdd, ↓reduceIte, wrap_in]
  refine ⟨fun hn => ?_, fun hn_Name => ?_⟩
  · rw [szR_neg (by omega)]; exact resolve_val _ _
  try simp (disch := omega) only [wrap_in]
  refine PureCall.call (szStringS_ok x.Subs (l - ByteArray.size x.Name) (by omega) (by omega) w_Subs _) ?_
  by_cases hn_Subs : ((szList ByteArray.size) x.Subs : Int) ≤ l - ByteArray.size x.Name
  case neg =>
    rw [szR_neg (n := (szList ByteArray.size) x.Subs) (l := l - ByteArray.size x.Name) (by omega)]
    simp (disch := omega) only [Ex_cond, go_sem, Nat.reduceEqDiff, Nat.reduceAdd, Nat.reduceLeDiff, reduceCtorEq, Int.reduceLT, Int.reduceLE, Int.reduceNeg, Int.reduceSub, Int.reduceAdd, ↓reduceIte, wrap_in]
    rw [szR_neg (by omega)]; exact resolve_val _ _
  rw [szR_pos (n := (szList ByteArray.size) x.Subs) (l := l - ByteArray.size x.Name) hn_Subs]
  simp (disch := omega) only [Ex_cond, go_sem, Nat.reduceEqDiff, Nat.reduceAdd, Nat.reduceLeDiff, reduceCtorEq, Int.reduceLT, Int.reduceLE, Int.reduceNeg, Int.reduceSub, Int.reduceAdd, ↓reduceIte, wrap_in]
  refine ⟨fun hn => absurd hn (by omega), fun _ => ?_⟩
  refine ⟨fun hn => ?_, fun hn_Routine => ?_⟩
  · rw [szR_neg (by omega)]; exact resolve_val _ _
  try simp (disch := omega) only [wrap_in]
  refine ⟨fun hn => ?_, fun hn_Label => ?_⟩
  · rw [szR_neg (by omega)]; exact resolve_val _ _
  try simp (disch := omega) only [wrap_in]
  rw [szR_pos (by omega), hsz]
  have hfin : l - ((ByteArray.size x.Name + (szList ByteArray.size) x.Subs + ByteArray.size x.Routine + ByteArray.size x.Label : Nat) : Int) = l - ByteArray.size x.Name - (szList ByteArray.size) x.Subs - ByteArray.size x.Routine - ByteArray.size x.Label := by omega
  rw [hfin]; exact resolve_val _ _

theorem toTrigger_ok (x : GTrigger) (hb : GTrigger.sz x ≤ 1048576) (h : List Row) : PureCall Try.prog 34 [.agg (GTrigger.cells x)] h (.agg (GTrigger.cells x)) := by
  have hsz : GTrigger.sz x = ByteArray.size x.Name + (szList ByteArray.size) x.Subs + ByteArray.size x.Routine + ByteArray.size x.Label := rfl
  refine pure_fn mixed Try.func34 low_laws_toTrigger rfl rfl ?_ h
  simp (disch := omega) only [lf_laws_toTrigger, c_laws_toTrigger, GTrigger.cells, Ex_cond, go_sem, Nat.reduceEqDiff, Nat.reduceAdd, Nat.reduceLeDiff, reduceCtorEq, Int.reduceLT, Int.reduceLE, Int.reduceNeg, Int.reduceSub, Int.reduceAdd, ↓reduceIte, post_cell]
  refine PureCall.call (toStringS_ok x.Subs (by omega) _) ?_
  simp (disch := omega) only [Ex_cond, go_sem, Nat.reduceEqDiff, Nat.reduceAdd, Nat.reduceLeDiff, reduceCtorEq, Int.reduceLT, Int.reduceLE, Int.reduceNeg, Int.reduceSub, Int.reduceAdd, ↓reduceIte, post_cell]
  exact resolve_agg _ _ rfl

theorem eqTrigger_ok (x : GTrigger) (hb : GTrigger.sz x ≤ 1048576) (h : List Row) : PureCall Try.prog 36 [.agg (GTrigger.cells x), .agg (GTrigger.cells x)] h (.val (.bool true)) := by
  have hsz : GTrigger.sz x = ByteArray.size x.Name + (szList ByteArray.size) x.Subs + ByteArray.size x.Routine + ByteArray.size x.Label := rfl
  refine pure_fn mixed Try.func36 low_laws_eqTrigger rfl rfl ?_ h
  simp (disch := omega) only [lf_laws_eqTrigger, c_laws_eqTrigger, GTrigger.cells, Ex_cond, go_sem, Nat.reduceEqDiff, Nat.reduceAdd, Nat.reduceLeDiff, reduceCtorEq, Int.reduceLT, Int.reduceLE, Int.reduceNeg, Int.reduceSub, Int.reduceAdd, ↓reduceIte]
  refine PureCall.call (eqStringS_ok x.Subs (by omega) _) ?_
  simp (disch := omega) only [Ex_cond, go_sem, Nat.reduceEqDiff, Nat.reduceAdd, Nat.reduceLeDiff, reduceCtorEq, Int.reduceLT, Int.reduceLE, Int.reduceNeg, Int.reduceSub, Int.reduceAdd, ↓reduceIte]
  exact resolve_val _ _

theorem szTriggerS_ok (xs : List GTrigger) (l : Int) (h0 : 0 ≤ l) (h1 : l ≤ 1048576) (hw : wfList GTrigger.wf xs) (h : List Row) : PureCall Try.prog 37 [.list 0 7 (xs.map GTrigger.cells), .val (.int .i64 l)] h (.val (.int .i64 (szR (szList GTrigger.sz xs) l))) := by
  obtain ⟨hx, hs⟩ := hw
  refine pure_fn mixed Try.func37 low_laws_szTriggerS rfl rfl ?_ h
  simp (disch := omega) only [lf_laws_szTriggerS, c_laws_szTriggerS, Ex_cond, go_sem, Nat.reduceEqDiff, Nat.reduceAdd, Nat.reduceLeDiff, reduceCtorEq, Int.reduceLT, Int.reduceLE, Int.reduceNeg, Int.reduceSub, Int.reduceAdd, ↓reduceIte, wrap_in]
  refine ⟨fun hn => ?_, fun hn => ?_⟩
  · rw [szR_neg (by simp only [szList]; omega)]; exact resolve_val _ _
  · refine Ex_loop (fun n t h => ∃ (k : Nat) (m : Int), t 0 = .list 0 7 (xs.map GTrigger.cells) ∧ t 5 = .val (.int .i64 k) ∧ t 1 = .val (.int .i64 m) ∧ h = [] ∧ n = xs.length - k ∧ k ≤ xs.length ∧ 0 ≤ m ∧ m ≤ 1048576 ∧ szR (szList GTrigger.sz xs) l = szR (sumOf GTrigger.sz (xs.drop k)) m) xs.length ?_ ?_
    · exact ⟨0, l - xs.length, rfl, rfl, rfl, rfl, rfl, Nat.zero_le _, by omega, by omega, szR_sub (by omega)⟩
    · rintro J hJ n t h ⟨k, m, t0, t5, t1, rfl, rfl, hk, hm0, hm1, hS⟩
      by_cases hlt : k < xs.length
      · have hd := sumOf_drop GTrigger.sz xs k hlt
        have hwk := hs _ (List.getElem_mem hlt)
        rw [hd] at hS
        simp (disch := omega) only [t0, t5, t1, hlt, GTrigger.cells, Ex_cond, go_sem, Nat.reduceEqDiff, Nat.reduceAdd, Nat.reduceLeDiff, reduceCtorEq, Int.reduceLT, Int.reduceLE, Int.reduceNeg, Int.reduceSub, Int.reduceAdd, ↓reduceIte, wrap_in]
        refine PureCall.call (szTrigger_ok xs[k] m hm0 hm1 hwk []) ?_
        by_cases hc : (GTrigger.sz xs[k] : Int) ≤ m
        · rw [szR_pos (n := GTrigger.sz xs[k]) (l := m) hc]
          simp (disch := omega) only [t0, t5, t1, Ex_cond, go_sem, Nat.reduceEqDiff, Nat.reduceAdd, Nat.reduceLeDiff, reduceCtorEq, Int.reduceLT, Int.reduceLE, Int.reduceNeg, Int.reduceSub, Int.reduceAdd, ↓reduceIte, wrap_in]
          refine ⟨fun hn2 => absurd hn2 (by omega), fun _ => ?_⟩
          exact ⟨xs.length - (k + 1), by omega, hJ _ _ _ ⟨k + 1, m - GTrigger.sz xs[k], by simp [upd, t0], by simp [upd], by simp [upd], rfl, rfl, by omega, by omega, by omega, by rw [hS, szR_sub (by omega)]⟩⟩
        · rw [szR_neg (n := GTrigger.sz xs[k]) (l := m) (by omega)]
          simp (disch := omega) only [t0, t5, t1, Ex_cond, go_sem, Nat.reduceEqDiff, Nat.reduceAdd, Nat.reduceLeDiff, reduceCtorEq, Int.reduceLT, Int.reduceLE, Int.reduceNeg, Int.reduceSub, Int.reduceAdd, ↓reduceIte, wrap_in]
          rw [hS, szR_neg (by omega)]; exact resolve_val _ _
      · simp (disch := omega) only [t0, t5, t1, hlt, Ex_cond, go_sem, Nat.reduceEqDiff, Nat.reduceAdd, Nat.reduceLeDiff, reduceCtorEq, Int.reduceLT, Int.reduceLE, Int.reduceNeg, Int.reduceSub, Int.reduceAdd, ↓reduceIte]
        rw [hS, List.drop_eq_nil_of_le (by omega), szR_pos (by simp only [sumOf]; omega)]
        simp only [sumOf, Int.natCast_zero, Int.sub_zero]
        exact resolve_val _ _

theorem toTriggerS_ok (xs : List GTrigger) (hb : (szList GTrigger.sz) xs ≤ 1048576) (h : List Row) : PureCall Try.prog 39 [.list 0 7 (xs.map GTrigger.cells)] h (.list 0 7 (xs.map GTrigger.cells)) := by
  have hx := Nat.le_trans (szList_length (f := GTrigger.sz) (xs := xs)) hb
  refine pure_fn mixed Try.func39 low_laws_toTriggerS rfl rfl ?_ h
  simp (disch := omega) only [lf_laws_toTriggerS, c_laws_toTriggerS, Ex_cond, go_sem, Nat.reduceEqDiff, Nat.reduceAdd, Nat.reduceLeDiff, reduceCtorEq, Int.reduceLT, Int.reduceLE, Int.reduceNeg, Int.reduceSub, Int.reduceAdd, ↓reduceIte, wrap_in]
  refine ⟨by omega, by omega, ?_⟩
  refine Ex_loop (fun n t h => ∃ k : Nat, t 0 = .list 0 7 (xs.map GTrigger.cells) ∧ t 3 = .own 0 xs.length ∧ t 4 = .val (.int .i64 k) ∧ h = [⟨45, 7, fillTo (xs.map GTrigger.cells) [.val (.int .i64 0), .val (.string ⟨#[]⟩), .val (.slice none 0 0), .val (.bool false), .val (.bool false), .val (.string ⟨#[]⟩), .val (.string ⟨#[]⟩)] k⟩] ∧ n = xs.length - k ∧ k ≤ xs.length) xs.length ?_ ?_
  · exact ⟨0, rfl, rfl, rfl, by rw [fillTo_zero]; simp, rfl, Nat.zero_le _⟩
  · rintro J hJ n t h ⟨k, t0, t3, t4, rfl, rfl, hk⟩
    have fl : (fillTo (xs.map GTrigger.cells) [.val (.int .i64 0), .val (.string ⟨#[]⟩), .val (.slice none 0 0), .val (.bool false), .val (.bool false), .val (.string ⟨#[]⟩), .val (.string ⟨#[]⟩)] k).length = xs.length := by rw [fillTo_length _ _ (by simpa using hk)]; simp
    by_cases hlt : k < xs.length
    · have fg : (fillTo (xs.map GTrigger.cells) [.val (.int .i64 0), .val (.string ⟨#[]⟩), .val (.slice none 0 0), .val (.bool false), .val (.bool false), .val (.string ⟨#[]⟩), .val (.string ⟨#[]⟩)] k)[k]? = some [.val (.int .i64 0), .val (.string ⟨#[]⟩), .val (.slice none 0 0), .val (.bool false), .val (.bool false), .val (.string ⟨#[]⟩), .val (.string ⟨#[]⟩)] := fillTo_get _ _ (by simpa using hlt)
      have fs := fillTo_set' (xs.map GTrigger.cells) [.val (.int .i64 0), .val (.string ⟨#[]⟩), .val (.slice none 0 0), .val (.bool false), .val (.bool false), .val (.string ⟨#[]⟩), .val (.string ⟨#[]⟩)] (GTrigger.cells xs[k]) (k := k) (by rw [List.getElem?_map, List.getElem?_eq_getElem hlt]; rfl)
      simp only [GTrigger.cells] at fs
      simp (disch := omega) only [t0, t3, t4, hlt, fl, fg, GTrigger.cells, Ex_cond, go_sem, Nat.reduceEqDiff, Nat.reduceAdd, Nat.reduceLeDiff, reduceCtorEq, Int.reduceLT, Int.reduceLE, Int.reduceNeg, Int.reduceSub, Int.reduceAdd, ↓reduceIte, wrap_in]
      refine PureCall.call (toTrigger_ok xs[k] (by have := szList_mem (f := GTrigger.sz) (List.getElem_mem hlt); omega) _) ?_
      simp (disch := omega) only [t0, t3, t4, hlt, fl, fg, fs, GTrigger.cells, Ex_cond, go_sem, Nat.reduceEqDiff, Nat.reduceAdd, Nat.reduceLeDiff, reduceCtorEq, Int.reduceLT, Int.reduceLE, Int.reduceNeg, Int.reduceSub, Int.reduceAdd, ↓reduceIte, wrap_in]
      exact ⟨xs.length - (k + 1), by omega, hJ _ _ _ ⟨k + 1, by simp [upd, t0], by simp [upd, t3], by simp [upd], rfl, rfl, by omega⟩⟩
    · simp (disch := omega) only [t0, t3, t4, hlt, fl, Ex_cond, go_sem, Nat.reduceEqDiff, Nat.reduceAdd, Nat.reduceLeDiff, reduceCtorEq, Int.reduceLT, Int.reduceLE, Int.reduceNeg, Int.reduceSub, Int.reduceAdd, ↓reduceIte, wrap_in]
      have ff : fillTo (xs.map GTrigger.cells) [.val (.int .i64 0), .val (.string ⟨#[]⟩), .val (.slice none 0 0), .val (.bool false), .val (.bool false), .val (.string ⟨#[]⟩), .val (.string ⟨#[]⟩)] k = xs.map GTrigger.cells := fillTo_all _ _ (by simp; omega)
      rw [ff]
      exact resolve_own (r := ⟨45, 7, xs.map GTrigger.cells⟩) rfl (by simp) (by intro e he; obtain ⟨x, _, q⟩ := List.mem_map.1 he; subst q; rfl)

theorem eqTriggerS_ok (xs : List GTrigger) (hb : (szList GTrigger.sz) xs ≤ 1048576) (h : List Row) : PureCall Try.prog 41 [.list 0 7 (xs.map GTrigger.cells), .list 0 7 (xs.map GTrigger.cells)] h (.val (.bool true)) := by
  have hx := Nat.le_trans (szList_length (f := GTrigger.sz) (xs := xs)) hb
  refine pure_fn mixed Try.func41 low_laws_eqTriggerS rfl rfl ?_ h
  simp (disch := omega) only [lf_laws_eqTriggerS, c_laws_eqTriggerS, Ex_cond, go_sem, Nat.reduceEqDiff, Nat.reduceAdd, Nat.reduceLeDiff, reduceCtorEq, Int.reduceLT, Int.reduceLE, Int.reduceNeg, Int.reduceSub, Int.reduceAdd, ↓reduceIte, wrap_in]
  refine Ex_loop (fun n t h => ∃ k : Nat, t 0 = .list 0 7 (xs.map GTrigger.cells) ∧ t 1 = .list 0 7 (xs.map GTrigger.cells) ∧ t 5 = .val (.int .i64 k) ∧ h = [] ∧ n = xs.length - k ∧ k ≤ xs.length) xs.length ?_ ?_
  · exact ⟨0, rfl, rfl, rfl, rfl, rfl, Nat.zero_le _⟩
  · rintro J hJ n t h ⟨k, t0, t1, t5, rfl, rfl, hk⟩
    by_cases hlt : k < xs.length
    · simp (disch := omega) only [t0, t1, t5, hlt, GTrigger.cells, Ex_cond, go_sem, Nat.reduceEqDiff, Nat.reduceAdd, Nat.reduceLeDiff, reduceCtorEq, Int.reduceLT, Int.reduceLE, Int.reduceNeg, Int.reduceSub, Int.reduceAdd, ↓reduceIte, wrap_in]
      refine PureCall.q (eqTrigger_ok xs[k] (by have := szList_mem (f := GTrigger.sz) (List.getElem_mem hlt); omega) _) ?_
      simp (disch := omega) only [t0, t1, t5, hlt, GTrigger.cells, Ex_cond, go_sem, Nat.reduceEqDiff, Nat.reduceAdd, Nat.reduceLeDiff, reduceCtorEq, Int.reduceLT, Int.reduceLE, Int.reduceNeg, Int.reduceSub, Int.reduceAdd, ↓reduceIte, wrap_in]
      exact ⟨xs.length - (k + 1), by omega, hJ _ _ _ ⟨k + 1, by simp [upd, t0], by simp [upd, t1], by simp [upd], rfl, rfl, by omega⟩⟩
    · simp (disch := omega) only [t0, t1, t5, hlt, Ex_cond, go_sem, Nat.reduceEqDiff, Nat.reduceAdd, Nat.reduceLeDiff, reduceCtorEq, Int.reduceLT, Int.reduceLE, Int.reduceNeg, Int.reduceSub, Int.reduceAdd, ↓reduceIte, wrap_in]
      exact resolve_val _ _

theorem szEventS_ok (xs : List GEvent) (l : Int) (h0 : 0 ≤ l) (h1 : l ≤ 1048576) (hw : wfList GEvent.wf xs) (h : List Row) : PureCall Try.prog 95 [.list 0 5 (xs.map GEvent.cells), .val (.int .i64 l)] h (.val (.int .i64 (szR (szList GEvent.sz xs) l))) := by
  obtain ⟨hx, hs⟩ := hw
  refine pure_fn mixed Try.func95 low_laws_szEventS rfl rfl ?_ h
  simp (disch := omega) only [lf_laws_szEventS, c_laws_szEventS, Ex_cond, go_sem, Nat.reduceEqDiff, Nat.reduceAdd, Nat.reduceLeDiff, reduceCtorEq, Int.reduceLT, Int.reduceLE, Int.reduceNeg, Int.reduceSub, Int.reduceAdd, ↓reduceIte, wrap_in]
  refine ⟨fun hn => ?_, fun hn => ?_⟩
  · rw [szR_neg (by simp only [szList]; omega)]; exact resolve_val _ _
  · refine Ex_loop (fun n t h => ∃ (k : Nat) (m : Int), t 0 = .list 0 5 (xs.map GEvent.cells) ∧ t 5 = .val (.int .i64 k) ∧ t 1 = .val (.int .i64 m) ∧ h = [] ∧ n = xs.length - k ∧ k ≤ xs.length ∧ 0 ≤ m ∧ m ≤ 1048576 ∧ szR (szList GEvent.sz xs) l = szR (sumOf GEvent.sz (xs.drop k)) m) xs.length ?_ ?_
    · exact ⟨0, l - xs.length, rfl, rfl, rfl, rfl, rfl, Nat.zero_le _, by omega, by omega, szR_sub (by omega)⟩
    · rintro J hJ n t h ⟨k, m, t0, t5, t1, rfl, rfl, hk, hm0, hm1, hS⟩
      by_cases hlt : k < xs.length
      · have hd := sumOf_drop GEvent.sz xs k hlt
        have hwk := hs _ (List.getElem_mem hlt)
        rw [hd] at hS
        simp (disch := omega) only [t0, t5, t1, hlt, GEvent.cells, Ex_cond, go_sem, Nat.reduceEqDiff, Nat.reduceAdd, Nat.reduceLeDiff, reduceCtorEq, Int.reduceLT, Int.reduceLE, Int.reduceNeg, Int.reduceSub, Int.reduceAdd, ↓reduceIte, wrap_in]
        refine PureCall.call (szEvent_ok xs[k] m hm0 hm1 hwk []) ?_
        by_cases hc : (GEvent.sz xs[k] : Int) ≤ m
        · rw [szR_pos (n := GEvent.sz xs[k]) (l := m) hc]
          simp (disch := omega) only [t0, t5, t1, Ex_cond, go_sem, Nat.reduceEqDiff, Nat.reduceAdd, Nat.reduceLeDiff, reduceCtorEq, Int.reduceLT, Int.reduceLE, Int.reduceNeg, Int.reduceSub, Int.reduceAdd, ↓reduceIte, wrap_in]
          refine ⟨fun hn2 => absurd hn2 (by omega), fun _ => ?_⟩
          exact ⟨xs.length - (k + 1), by omega, hJ _ _ _ ⟨k + 1, m - GEvent.sz xs[k], by simp [upd, t0], by simp [upd], by simp [upd], rfl, rfl, by omega, by omega, by omega, by rw [hS, szR_sub (by omega)]⟩⟩
        · rw [szR_neg (n := GEvent.sz xs[k]) (l := m) (by omega)]
          simp (disch := omega) only [t0, t5, t1, Ex_cond, go_sem, Nat.reduceEqDiff, Nat.reduceAdd, Nat.reduceLeDiff, reduceCtorEq, Int.reduceLT, Int.reduceLE, Int.reduceNeg, Int.reduceSub, Int.reduceAdd, ↓reduceIte, wrap_in]
          rw [hS, szR_neg (by omega)]; exact resolve_val _ _
      · simp (disch := omega) only [t0, t5, t1, hlt, Ex_cond, go_sem, Nat.reduceEqDiff, Nat.reduceAdd, Nat.reduceLeDiff, reduceCtorEq, Int.reduceLT, Int.reduceLE, Int.reduceNeg, Int.reduceSub, Int.reduceAdd, ↓reduceIte]
        rw [hS, List.drop_eq_nil_of_le (by omega), szR_pos (by simp only [sumOf]; omega)]
        simp only [sumOf, Int.natCast_zero, Int.sub_zero]
        exact resolve_val _ _

theorem toEventS_ok (xs : List GEvent) (hb : (szList GEvent.sz) xs ≤ 1048576) (h : List Row) : PureCall Try.prog 97 [.list 0 5 (xs.map GEvent.cells)] h (.list 0 5 (xs.map GEvent.cells)) := by
  have hx := Nat.le_trans (szList_length (f := GEvent.sz) (xs := xs)) hb
  refine pure_fn mixed Try.func97 low_laws_toEventS rfl rfl ?_ h
  simp (disch := omega) only [lf_laws_toEventS, c_laws_toEventS, Ex_cond, go_sem, Nat.reduceEqDiff, Nat.reduceAdd, Nat.reduceLeDiff, reduceCtorEq, Int.reduceLT, Int.reduceLE, Int.reduceNeg, Int.reduceSub, Int.reduceAdd, ↓reduceIte, wrap_in]
  refine ⟨by omega, by omega, ?_⟩
  refine Ex_loop (fun n t h => ∃ k : Nat, t 0 = .list 0 5 (xs.map GEvent.cells) ∧ t 3 = .own 0 xs.length ∧ t 4 = .val (.int .i64 k) ∧ h = [⟨27, 5, fillTo (xs.map GEvent.cells) [.val (.int .i64 0), .val (.string ⟨#[]⟩), .val (.slice none 0 0), .val (.string ⟨#[]⟩), .val (.int .i64 0)] k⟩] ∧ n = xs.length - k ∧ k ≤ xs.length) xs.length ?_ ?_
  · exact ⟨0, rfl, rfl, rfl, by rw [fillTo_zero]; simp, rfl, Nat.zero_le _⟩
  · rintro J hJ n t h ⟨k, t0, t3, t4, rfl, rfl, hk⟩
    have fl : (fillTo (xs.map GEvent.cells) [.val (.int .i64 0), .val (.string ⟨#[]⟩), .val (.slice none 0 0), .val (.string ⟨#[]⟩), .val (.int .i64 0)] k).length = xs.length := by rw [fillTo_length _ _ (by simpa using hk)]; simp
    by_cases hlt : k < xs.length
    · have fg : (fillTo (xs.map GEvent.cells) [.val (.int .i64 0), .val (.string ⟨#[]⟩), .val (.slice none 0 0), .val (.string ⟨#[]⟩), .val (.int .i64 0)] k)[k]? = some [.val (.int .i64 0), .val (.string ⟨#[]⟩), .val (.slice none 0 0), .val (.string ⟨#[]⟩), .val (.int .i64 0)] := fillTo_get _ _ (by simpa using hlt)
      have fs := fillTo_set' (xs.map GEvent.cells) [.val (.int .i64 0), .val (.string ⟨#[]⟩), .val (.slice none 0 0), .val (.string ⟨#[]⟩), .val (.int .i64 0)] (GEvent.cells xs[k]) (k := k) (by rw [List.getElem?_map, List.getElem?_eq_getElem hlt]; rfl)
      simp only [GEvent.cells] at fs
      simp (disch := omega) only [t0, t3, t4, hlt, fl, fg, GEvent.cells, Ex_cond, go_sem, Nat.reduceEqDiff, Nat.reduceAdd, Nat.reduceLeDiff, reduceCtorEq, Int.reduceLT, Int.reduceLE, Int.reduceNeg, Int.reduceSub, Int.reduceAdd, ↓reduceIte, wrap_in]
      refine PureCall.call (toEvent_ok xs[k] (by have := szList_mem (f := GEvent.sz) (List.getElem_mem hlt); omega) _) ?_
      simp (disch := omega) only [t0, t3, t4, hlt, fl, fg, fs, GEvent.cells, Ex_cond, go_sem, Nat.reduceEqDiff, Nat.reduceAdd, Nat.reduceLeDiff, reduceCtorEq, Int.reduceLT, Int.reduceLE, Int.reduceNeg, Int.reduceSub, Int.reduceAdd, ↓reduceIte, wrap_in]
      exact ⟨xs.length - (k + 1), by omega, hJ _ _ _ ⟨k + 1, by simp [upd, t0], by simp [upd, t3], by simp [upd], rfl, rfl, by omega⟩⟩
    · simp (disch := omega) only [t0, t3, t4, hlt, fl, Ex_cond, go_sem, Nat.reduceEqDiff, Nat.reduceAdd, Nat.reduceLeDiff, reduceCtorEq, Int.reduceLT, Int.reduceLE, Int.reduceNeg, Int.reduceSub, Int.reduceAdd, ↓reduceIte, wrap_in]
      have ff : fillTo (xs.map GEvent.cells) [.val (.int .i64 0), .val (.string ⟨#[]⟩), .val (.slice none 0 0), .val (.string ⟨#[]⟩), .val (.int .i64 0)] k = xs.map GEvent.cells := fillTo_all _ _ (by simp; omega)
      rw [ff]
      exact resolve_own (r := ⟨27, 5, xs.map GEvent.cells⟩) rfl (by simp) (by intro e he; obtain ⟨x, _, q⟩ := List.mem_map.1 he; subst q; rfl)

theorem eqEventS_ok (xs : List GEvent) (hb : (szList GEvent.sz) xs ≤ 1048576) (h : List Row) : PureCall Try.prog 99 [.list 0 5 (xs.map GEvent.cells), .list 0 5 (xs.map GEvent.cells)] h (.val (.bool true)) := by
  have hx := Nat.le_trans (szList_length (f := GEvent.sz) (xs := xs)) hb
  refine pure_fn mixed Try.func99 low_laws_eqEventS rfl rfl ?_ h
  simp (disch := omega) only [lf_laws_eqEventS, c_laws_eqEventS, Ex_cond, go_sem, Nat.reduceEqDiff, Nat.reduceAdd, Nat.reduceLeDiff, reduceCtorEq, Int.reduceLT, Int.reduceLE, Int.reduceNeg, Int.reduceSub, Int.reduceAdd, ↓reduceIte, wrap_in]
  refine Ex_loop (fun n t h => ∃ k : Nat, t 0 = .list 0 5 (xs.map GEvent.cells) ∧ t 1 = .list 0 5 (xs.map GEvent.cells) ∧ t 5 = .val (.int .i64 k) ∧ h = [] ∧ n = xs.length - k ∧ k ≤ xs.length) xs.length ?_ ?_
  · exact ⟨0, rfl, rfl, rfl, rfl, rfl, Nat.zero_le _⟩
  · rintro J hJ n t h ⟨k, t0, t1, t5, rfl, rfl, hk⟩
    by_cases hlt : k < xs.length
    · simp (disch := omega) only [t0, t1, t5, hlt, GEvent.cells, Ex_cond, go_sem, Nat.reduceEqDiff, Nat.reduceAdd, Nat.reduceLeDiff, reduceCtorEq, Int.reduceLT, Int.reduceLE, Int.reduceNeg, Int.reduceSub, Int.reduceAdd, ↓reduceIte, wrap_in]
      refine PureCall.q (eqEvent_ok xs[k] (by have := szList_mem (f := GEvent.sz) (List.getElem_mem hlt); omega) _) ?_
      simp (disch := omega) only [t0, t1, t5, hlt, GEvent.cells, Ex_cond, go_sem, Nat.reduceEqDiff, Nat.reduceAdd, Nat.reduceLeDiff, reduceCtorEq, Int.reduceLT, Int.reduceLE, Int.reduceNeg, Int.reduceSub, Int.reduceAdd, ↓reduceIte, wrap_in]
      exact ⟨xs.length - (k + 1), by omega, hJ _ _ _ ⟨k + 1, by simp [upd, t0], by simp [upd, t1], by simp [upd], rfl, rfl, by omega⟩⟩
    · simp (disch := omega) only [t0, t1, t5, hlt, Ex_cond, go_sem, Nat.reduceEqDiff, Nat.reduceAdd, Nat.reduceLeDiff, reduceCtorEq, Int.reduceLT, Int.reduceLE, Int.reduceNeg, Int.reduceSub, Int.reduceAdd, ↓reduceIte, wrap_in]
      exact resolve_val _ _

theorem szTrans_ok (x : GTrans) (l : Int) (h0 : 0 ≤ l) (h1 : l ≤ 1048576) (hw : GTrans.wf x) (h : List Row) : PureCall Try.prog 42 [.agg (GTrans.cells x), .val (.int .i64 l)] h (.val (.int .i64 (szR (GTrans.sz x) l))) := by
  obtain ⟨w_Depth, w_Restarts, w_Events, _⟩ := hw
  have hsz : GTrans.sz x = (szList GEvent.sz) x.Events := rfl
  refine pure_fn mixed Try.func42 low_laws_szTrans rfl rfl ?_ h
  simp (disch := omega) only [lf_laws_szTrans, c_laws_szTrans, GTrans.cells, Ex_cond, go_sem, Nat.reduceEqDiff, Nat.reduceAdd, Nat.reduceLeDiff, reduceCtorEq, Int.reduceLT, Int.reduceLE, Int.reduceNeg, Int.reduceSub, Int.reduceAdd, ↓reduceIte, wrap_in]
  refine PureCall.call (szEventS_ok x.Events (l) (by omega) (by omega) w_Events _) ?_
  by_cases hn_Events : ((szList GEvent.sz) x.Events : Int) ≤ l
  case neg =>
    rw [szR_neg (n := (szList GEvent.sz) x.Events) (l := l) (by omega)]
    simp (disch := omega) only [Ex_cond, go_sem, Nat.reduceEqDiff, Nat.reduceAdd, Nat.reduceLeDiff, reduceCtorEq, Int.reduceLT, Int.reduceLE, Int.reduceNeg, Int.reduceSub, Int.reduceAdd, ↓reduceIte, wrap_in]
    rw [szR_neg (by omega)]; exact resolve_val _ _
  rw [szR_pos (n := (szList GEvent.sz) x.Events) (l := l) hn_Events]
  simp (disch := omega) only [Ex_cond, go_sem, Nat.reduceEqDiff, Nat.reduceAdd, Nat.reduceLeDiff, reduceCtorEq, Int.reduceLT, Int.reduceLE, Int.reduceNeg, Int.reduceSub, Int.reduceAdd, ↓reduceIte, wrap_in]
  refine ⟨fun hn => absurd hn (by omega), fun _ => ?_⟩
  rw [szR_pos (by omega), hsz]
  have hfin : l - (((szList GEvent.sz) x.Events : Nat) : Int) = l - (szList GEvent.sz) x.Events := by omega
  rw [hfin]; exact resolve_val _ _

theorem toTrans_ok (x : GTrans) (hb : GTrans.sz x ≤ 1048576) (h : List Row) : PureCall Try.prog 44 [.agg (GTrans.cells x)] h (.agg (GTrans.cells x)) := by
  have hsz : GTrans.sz x = (szList GEvent.sz) x.Events := rfl
  refine pure_fn mixed Try.func44 low_laws_toTrans rfl rfl ?_ h
  simp (disch := omega) only [lf_laws_toTrans, c_laws_toTrans, GTrans.cells, Ex_cond, go_sem, Nat.reduceEqDiff, Nat.reduceAdd, Nat.reduceLeDiff, reduceCtorEq, Int.reduceLT, Int.reduceLE, Int.reduceNeg, Int.reduceSub, Int.reduceAdd, ↓reduceIte, post_cell]
  refine PureCall.call (toEventS_ok x.Events (by omega) _) ?_
  simp (disch := omega) only [Ex_cond, go_sem, Nat.reduceEqDiff, Nat.reduceAdd, Nat.reduceLeDiff, reduceCtorEq, Int.reduceLT, Int.reduceLE, Int.reduceNeg, Int.reduceSub, Int.reduceAdd, ↓reduceIte, post_cell]
  exact resolve_agg _ _ rfl

theorem eqTrans_ok (x : GTrans) (hb : GTrans.sz x ≤ 1048576) (h : List Row) : PureCall Try.prog 46 [.agg (GTrans.cells x), .agg (GTrans.cells x)] h (.val (.bool true)) := by
  have hsz : GTrans.sz x = (szList GEvent.sz) x.Events := rfl
  refine pure_fn mixed Try.func46 low_laws_eqTrans rfl rfl ?_ h
  simp (disch := omega) only [lf_laws_eqTrans, c_laws_eqTrans, GTrans.cells, Ex_cond, go_sem, Nat.reduceEqDiff, Nat.reduceAdd, Nat.reduceLeDiff, reduceCtorEq, Int.reduceLT, Int.reduceLE, Int.reduceNeg, Int.reduceSub, Int.reduceAdd, ↓reduceIte]
  refine PureCall.call (eqEventS_ok x.Events (by omega) _) ?_
  simp (disch := omega) only [Ex_cond, go_sem, Nat.reduceEqDiff, Nat.reduceAdd, Nat.reduceLeDiff, reduceCtorEq, Int.reduceLT, Int.reduceLE, Int.reduceNeg, Int.reduceSub, Int.reduceAdd, ↓reduceIte]
  exact resolve_val _ _

theorem szBatch_ok (x : GBatch) (l : Int) (h0 : 0 ≤ l) (h1 : l ≤ 1048576) (hw : GBatch.wf x) (h : List Row) : PureCall Try.prog 100 [.agg (GBatch.cells x), .val (.int .i64 l)] h (.val (.int .i64 (szR (GBatch.sz x) l))) := by
  obtain ⟨w_Job, w_Events, _⟩ := hw
  have hsz : GBatch.sz x = (szList GEvent.sz) x.Events := rfl
  refine pure_fn mixed Try.func100 low_laws_szBatch rfl rfl ?_ h
  simp (disch := omega) only [lf_laws_szBatch, c_laws_szBatch, GBatch.cells, Ex_cond, go_sem, Nat.reduceEqDiff, Nat.reduceAdd, Nat.reduceLeDiff, reduceCtorEq, Int.reduceLT, Int.reduceLE, Int.reduceNeg, Int.reduceSub, Int.reduceAdd, ↓reduceIte, wrap_in]
  refine PureCall.call (szEventS_ok x.Events (l) (by omega) (by omega) w_Events _) ?_
  by_cases hn_Events : ((szList GEvent.sz) x.Events : Int) ≤ l
  case neg =>
    rw [szR_neg (n := (szList GEvent.sz) x.Events) (l := l) (by omega)]
    simp (disch := omega) only [Ex_cond, go_sem, Nat.reduceEqDiff, Nat.reduceAdd, Nat.reduceLeDiff, reduceCtorEq, Int.reduceLT, Int.reduceLE, Int.reduceNeg, Int.reduceSub, Int.reduceAdd, ↓reduceIte, wrap_in]
    rw [szR_neg (by omega)]; exact resolve_val _ _
  rw [szR_pos (n := (szList GEvent.sz) x.Events) (l := l) hn_Events]
  simp (disch := omega) only [Ex_cond, go_sem, Nat.reduceEqDiff, Nat.reduceAdd, Nat.reduceLeDiff, reduceCtorEq, Int.reduceLT, Int.reduceLE, Int.reduceNeg, Int.reduceSub, Int.reduceAdd, ↓reduceIte, wrap_in]
  refine ⟨fun hn => absurd hn (by omega), fun _ => ?_⟩
  rw [szR_pos (by omega), hsz]
  have hfin : l - (((szList GEvent.sz) x.Events : Nat) : Int) = l - (szList GEvent.sz) x.Events := by omega
  rw [hfin]; exact resolve_val _ _

theorem toBatch_ok (x : GBatch) (hb : GBatch.sz x ≤ 1048576) (h : List Row) : PureCall Try.prog 101 [.agg (GBatch.cells x)] h (.agg (GBatch.cells x)) := by
  have hsz : GBatch.sz x = (szList GEvent.sz) x.Events := rfl
  refine pure_fn mixed Try.func101 low_laws_toBatch rfl rfl ?_ h
  simp (disch := omega) only [lf_laws_toBatch, c_laws_toBatch, GBatch.cells, Ex_cond, go_sem, Nat.reduceEqDiff, Nat.reduceAdd, Nat.reduceLeDiff, reduceCtorEq, Int.reduceLT, Int.reduceLE, Int.reduceNeg, Int.reduceSub, Int.reduceAdd, ↓reduceIte, post_cell]
  refine PureCall.call (toEventS_ok x.Events (by omega) _) ?_
  simp (disch := omega) only [Ex_cond, go_sem, Nat.reduceEqDiff, Nat.reduceAdd, Nat.reduceLeDiff, reduceCtorEq, Int.reduceLT, Int.reduceLE, Int.reduceNeg, Int.reduceSub, Int.reduceAdd, ↓reduceIte, post_cell]
  exact resolve_agg _ _ rfl

theorem eqBatch_ok (x : GBatch) (hb : GBatch.sz x ≤ 1048576) (h : List Row) : PureCall Try.prog 104 [.agg (GBatch.cells x), .agg (GBatch.cells x)] h (.val (.bool true)) := by
  have hsz : GBatch.sz x = (szList GEvent.sz) x.Events := rfl
  refine pure_fn mixed Try.func104 low_laws_eqBatch rfl rfl ?_ h
  simp (disch := omega) only [lf_laws_eqBatch, c_laws_eqBatch, GBatch.cells, Ex_cond, go_sem, Nat.reduceEqDiff, Nat.reduceAdd, Nat.reduceLeDiff, reduceCtorEq, Int.reduceLT, Int.reduceLE, Int.reduceNeg, Int.reduceSub, Int.reduceAdd, ↓reduceIte]
  refine PureCall.call (eqEventS_ok x.Events (by omega) _) ?_
  simp (disch := omega) only [Ex_cond, go_sem, Nat.reduceEqDiff, Nat.reduceAdd, Nat.reduceLeDiff, reduceCtorEq, Int.reduceLT, Int.reduceLE, Int.reduceNeg, Int.reduceSub, Int.reduceAdd, ↓reduceIte]
  exact resolve_val _ _

theorem szBatchS_ok (xs : List GBatch) (l : Int) (h0 : 0 ≤ l) (h1 : l ≤ 1048576) (hw : wfList GBatch.wf xs) (h : List Row) : PureCall Try.prog 49 [.list 0 2 (xs.map GBatch.cells), .val (.int .i64 l)] h (.val (.int .i64 (szR (szList GBatch.sz xs) l))) := by
  obtain ⟨hx, hs⟩ := hw
  refine pure_fn mixed Try.func49 low_laws_szBatchS rfl rfl ?_ h
  simp (disch := omega) only [lf_laws_szBatchS, c_laws_szBatchS, Ex_cond, go_sem, Nat.reduceEqDiff, Nat.reduceAdd, Nat.reduceLeDiff, reduceCtorEq, Int.reduceLT, Int.reduceLE, Int.reduceNeg, Int.reduceSub, Int.reduceAdd, ↓reduceIte, wrap_in]
  refine ⟨fun hn => ?_, fun hn => ?_⟩
  · rw [szR_neg (by simp only [szList]; omega)]; exact resolve_val _ _
  · refine Ex_loop (fun n t h => ∃ (k : Nat) (m : Int), t 0 = .list 0 2 (xs.map GBatch.cells) ∧ t 5 = .val (.int .i64 k) ∧ t 1 = .val (.int .i64 m) ∧ h = [] ∧ n = xs.length - k ∧ k ≤ xs.length ∧ 0 ≤ m ∧ m ≤ 1048576 ∧ szR (szList GBatch.sz xs) l = szR (sumOf GBatch.sz (xs.drop k)) m) xs.length ?_ ?_
    · exact ⟨0, l - xs.length, rfl, rfl, rfl, rfl, rfl, Nat.zero_le _, by omega, by omega, szR_sub (by omega)⟩
    · rintro J hJ n t h ⟨k, m, t0, t5, t1, rfl, rfl, hk, hm0, hm1, hS⟩
      by_cases hlt : k < xs.length
      · have hd := sumOf_drop GBatch.sz xs k hlt
        have hwk := hs _ (List.getElem_mem hlt)
        rw [hd] at hS
        simp (disch := omega) only [t0, t5, t1, hlt, GBatch.cells, Ex_cond, go_sem, Nat.reduceEqDiff, Nat.reduceAdd, Nat.reduceLeDiff, reduceCtorEq, Int.reduceLT, Int.reduceLE, Int.reduceNeg, Int.reduceSub, Int.reduceAdd, ↓reduceIte, wrap_in]
        refine PureCall.call (szBatch_ok xs[k] m hm0 hm1 hwk []) ?_
        by_cases hc : (GBatch.sz xs[k] : Int) ≤ m
        · rw [szR_pos (n := GBatch.sz xs[k]) (l := m) hc]
          simp (disch := omega) only [t0, t5, t1, Ex_cond, go_sem, Nat.reduceEqDiff, Nat.reduceAdd, Nat.reduceLeDiff, reduceCtorEq, Int.reduceLT, Int.reduceLE, Int.reduceNeg, Int.reduceSub, Int.reduceAdd, ↓reduceIte, wrap_in]
          refine ⟨fun hn2 => absurd hn2 (by omega), fun _ => ?_⟩
          exact ⟨xs.length - (k + 1), by omega, hJ _ _ _ ⟨k + 1, m - GBatch.sz xs[k], by simp [upd, t0], by simp [upd], by simp [upd], rfl, rfl, by omega, by omega, by omega, by rw [hS, szR_sub (by omega)]⟩⟩
        · rw [szR_neg (n := GBatch.sz xs[k]) (l := m) (by omega)]
          simp (disch := omega) only [t0, t5, t1, Ex_cond, go_sem, Nat.reduceEqDiff, Nat.reduceAdd, Nat.reduceLeDiff, reduceCtorEq, Int.reduceLT, Int.reduceLE, Int.reduceNeg, Int.reduceSub, Int.reduceAdd, ↓reduceIte, wrap_in]
          rw [hS, szR_neg (by omega)]; exact resolve_val _ _
      · simp (disch := omega) only [t0, t5, t1, hlt, Ex_cond, go_sem, Nat.reduceEqDiff, Nat.reduceAdd, Nat.reduceLeDiff, reduceCtorEq, Int.reduceLT, Int.reduceLE, Int.reduceNeg, Int.reduceSub, Int.reduceAdd, ↓reduceIte]
        rw [hS, List.drop_eq_nil_of_le (by omega), szR_pos (by simp only [sumOf]; omega)]
        simp only [sumOf, Int.natCast_zero, Int.sub_zero]
        exact resolve_val _ _

theorem toBatchS_ok (xs : List GBatch) (hb : (szList GBatch.sz) xs ≤ 1048576) (h : List Row) : PureCall Try.prog 51 [.list 0 2 (xs.map GBatch.cells)] h (.list 0 2 (xs.map GBatch.cells)) := by
  have hx := Nat.le_trans (szList_length (f := GBatch.sz) (xs := xs)) hb
  refine pure_fn mixed Try.func51 low_laws_toBatchS rfl rfl ?_ h
  simp (disch := omega) only [lf_laws_toBatchS, c_laws_toBatchS, Ex_cond, go_sem, Nat.reduceEqDiff, Nat.reduceAdd, Nat.reduceLeDiff, reduceCtorEq, Int.reduceLT, Int.reduceLE, Int.reduceNeg, Int.reduceSub, Int.reduceAdd, ↓reduceIte, wrap_in]
  refine ⟨by omega, by omega, ?_⟩
  refine Ex_loop (fun n t h => ∃ k : Nat, t 0 = .list 0 2 (xs.map GBatch.cells) ∧ t 3 = .own 0 xs.length ∧ t 4 = .val (.int .i64 k) ∧ h = [⟨121, 2, fillTo (xs.map GBatch.cells) [.val (.int .i64 0), .val (.slice none 0 0)] k⟩] ∧ n = xs.length - k ∧ k ≤ xs.length) xs.length ?_ ?_
  · exact ⟨0, rfl, rfl, rfl, by rw [fillTo_zero]; simp, rfl, Nat.zero_le _⟩
  · rintro J hJ n t h ⟨k, t0, t3, t4, rfl, rfl, hk⟩
    have fl : (fillTo (xs.map GBatch.cells) [.val (.int .i64 0), .val (.slice none 0 0)] k).length = xs.length := by rw [fillTo_length _ _ (by simpa using hk)]; simp
    by_cases hlt : k < xs.length
    · have fg : (fillTo (xs.map GBatch.cells) [.val (.int .i64 0), .val (.slice none 0 0)] k)[k]? = some [.val (.int .i64 0), .val (.slice none 0 0)] := fillTo_get _ _ (by simpa using hlt)
      have fs := fillTo_set' (xs.map GBatch.cells) [.val (.int .i64 0), .val (.slice none 0 0)] (GBatch.cells xs[k]) (k := k) (by rw [List.getElem?_map, List.getElem?_eq_getElem hlt]; rfl)
      simp only [GBatch.cells] at fs
      simp (disch := omega) only [t0, t3, t4, hlt, fl, fg, GBatch.cells, Ex_cond, go_sem, Nat.reduceEqDiff, Nat.reduceAdd, Nat.reduceLeDiff, reduceCtorEq, Int.reduceLT, Int.reduceLE, Int.reduceNeg, Int.reduceSub, Int.reduceAdd, ↓reduceIte, wrap_in]
      refine PureCall.call (toBatch_ok xs[k] (by have := szList_mem (f := GBatch.sz) (List.getElem_mem hlt); omega) _) ?_
      simp (disch := omega) only [t0, t3, t4, hlt, fl, fg, fs, GBatch.cells, Ex_cond, go_sem, Nat.reduceEqDiff, Nat.reduceAdd, Nat.reduceLeDiff, reduceCtorEq, Int.reduceLT, Int.reduceLE, Int.reduceNeg, Int.reduceSub, Int.reduceAdd, ↓reduceIte, wrap_in]
      exact ⟨xs.length - (k + 1), by omega, hJ _ _ _ ⟨k + 1, by simp [upd, t0], by simp [upd, t3], by simp [upd], rfl, rfl, by omega⟩⟩
    · simp (disch := omega) only [t0, t3, t4, hlt, fl, Ex_cond, go_sem, Nat.reduceEqDiff, Nat.reduceAdd, Nat.reduceLeDiff, reduceCtorEq, Int.reduceLT, Int.reduceLE, Int.reduceNeg, Int.reduceSub, Int.reduceAdd, ↓reduceIte, wrap_in]
      have ff : fillTo (xs.map GBatch.cells) [.val (.int .i64 0), .val (.slice none 0 0)] k = xs.map GBatch.cells := fillTo_all _ _ (by simp; omega)
      rw [ff]
      exact resolve_own (r := ⟨121, 2, xs.map GBatch.cells⟩) rfl (by simp) (by intro e he; obtain ⟨x, _, q⟩ := List.mem_map.1 he; subst q; rfl)

theorem eqBatchS_ok (xs : List GBatch) (hb : (szList GBatch.sz) xs ≤ 1048576) (h : List Row) : PureCall Try.prog 53 [.list 0 2 (xs.map GBatch.cells), .list 0 2 (xs.map GBatch.cells)] h (.val (.bool true)) := by
  have hx := Nat.le_trans (szList_length (f := GBatch.sz) (xs := xs)) hb
  refine pure_fn mixed Try.func53 low_laws_eqBatchS rfl rfl ?_ h
  simp (disch := omega) only [lf_laws_eqBatchS, c_laws_eqBatchS, Ex_cond, go_sem, Nat.reduceEqDiff, Nat.reduceAdd, Nat.reduceLeDiff, reduceCtorEq, Int.reduceLT, Int.reduceLE, Int.reduceNeg, Int.reduceSub, Int.reduceAdd, ↓reduceIte, wrap_in]
  refine Ex_loop (fun n t h => ∃ k : Nat, t 0 = .list 0 2 (xs.map GBatch.cells) ∧ t 1 = .list 0 2 (xs.map GBatch.cells) ∧ t 5 = .val (.int .i64 k) ∧ h = [] ∧ n = xs.length - k ∧ k ≤ xs.length) xs.length ?_ ?_
  · exact ⟨0, rfl, rfl, rfl, rfl, rfl, Nat.zero_le _⟩
  · rintro J hJ n t h ⟨k, t0, t1, t5, rfl, rfl, hk⟩
    by_cases hlt : k < xs.length
    · simp (disch := omega) only [t0, t1, t5, hlt, GBatch.cells, Ex_cond, go_sem, Nat.reduceEqDiff, Nat.reduceAdd, Nat.reduceLeDiff, reduceCtorEq, Int.reduceLT, Int.reduceLE, Int.reduceNeg, Int.reduceSub, Int.reduceAdd, ↓reduceIte, wrap_in]
      refine PureCall.q (eqBatch_ok xs[k] (by have := szList_mem (f := GBatch.sz) (List.getElem_mem hlt); omega) _) ?_
      simp (disch := omega) only [t0, t1, t5, hlt, GBatch.cells, Ex_cond, go_sem, Nat.reduceEqDiff, Nat.reduceAdd, Nat.reduceLeDiff, reduceCtorEq, Int.reduceLT, Int.reduceLE, Int.reduceNeg, Int.reduceSub, Int.reduceAdd, ↓reduceIte, wrap_in]
      exact ⟨xs.length - (k + 1), by omega, hJ _ _ _ ⟨k + 1, by simp [upd, t0], by simp [upd, t1], by simp [upd], rfl, rfl, by omega⟩⟩
    · simp (disch := omega) only [t0, t1, t5, hlt, Ex_cond, go_sem, Nat.reduceEqDiff, Nat.reduceAdd, Nat.reduceLeDiff, reduceCtorEq, Int.reduceLT, Int.reduceLE, Int.reduceNeg, Int.reduceSub, Int.reduceAdd, ↓reduceIte, wrap_in]
      exact resolve_val _ _

theorem szLock_ok (x : GLock) (l : Int) (h0 : 0 ≤ l) (h1 : l ≤ 1048576) (hw : GLock.wf x) (h : List Row) : PureCall Try.prog 132 [.agg (GLock.cells x), .val (.int .i64 l)] h (.val (.int .i64 (szR (GLock.sz x) l))) := by
  obtain ⟨w_Job, w_Count, w_Name, w_Subs, _⟩ := hw
  have hsz : GLock.sz x = ByteArray.size x.Name + (szList ByteArray.size) x.Subs := rfl
  refine pure_fn mixed Try.func132 low_laws_szLock rfl rfl ?_ h
  unfold wfStr at w_Name
  simp (disch := omega) only [lf_laws_szLock, c_laws_szLock, GLock.cells, Ex_cond, go_sem, Nat.reduceEqDiff, Nat.reduceAdd, Nat.reduceLeDiff, reduceCtorEq, Int.reduceLT, Int.reduceLE, Int.reduceNeg, Int.reduceSub, Int.reduceAdd, ↓reduceIte, wrap_in]
  refine ⟨fun hn => ?_, fun hn_Name => ?_⟩
  · rw [szR_neg (by omega)]; exact resolve_val _ _
  try simp (disch := omega) only [wrap_in]
  refine PureCall.call (szStringS_ok x.Subs (l - ByteArray.size x.Name) (by omega) (by omega) w_Subs _) ?_
  by_cases hn_Subs : ((szList ByteArray.size) x.Subs : Int) ≤ l - ByteArray.size x.Name
  case neg =>
    rw [szR_neg (n := (szList ByteArray.size) x.Subs) (l := l - ByteArray.size x.Name) (by omega)]
    simp (disch := omega) only [Ex_cond, go_sem, Nat.reduceEqDiff, Nat.reduceAdd, Nat.reduceLeDiff, reduceCtorEq, Int.reduceLT, Int.reduceLE, Int.reduceNeg, Int.reduceSub, Int.reduceAdd, ↓reduceIte, wrap_in]
    rw [szR_neg (by omega)]; exact resolve_val _ _
  rw [szR_pos (n := (szList ByteArray.size) x.Subs) (l := l - ByteArray.size x.Name) hn_Subs]
  simp (disch := omega) only [Ex_cond, go_sem, Nat.reduceEqDiff, Nat.reduceAdd, Nat.reduceLeDiff, reduceCtorEq, Int.reduceLT, Int.reduceLE, Int.reduceNeg, Int.reduceSub, Int.reduceAdd, ↓reduceIte, wrap_in]
  refine ⟨fun hn => absurd hn (by omega), fun _ => ?_⟩
  rw [szR_pos (by omega), hsz]
  have hfin : l - ((ByteArray.size x.Name + (szList ByteArray.size) x.Subs : Nat) : Int) = l - ByteArray.size x.Name - (szList ByteArray.size) x.Subs := by omega
  rw [hfin]; exact resolve_val _ _

theorem toLock_ok (x : GLock) (hb : GLock.sz x ≤ 1048576) (h : List Row) : PureCall Try.prog 134 [.agg (GLock.cells x)] h (.agg (GLock.cells x)) := by
  have hsz : GLock.sz x = ByteArray.size x.Name + (szList ByteArray.size) x.Subs := rfl
  refine pure_fn mixed Try.func134 low_laws_toLock rfl rfl ?_ h
  simp (disch := omega) only [lf_laws_toLock, c_laws_toLock, GLock.cells, Ex_cond, go_sem, Nat.reduceEqDiff, Nat.reduceAdd, Nat.reduceLeDiff, reduceCtorEq, Int.reduceLT, Int.reduceLE, Int.reduceNeg, Int.reduceSub, Int.reduceAdd, ↓reduceIte, post_cell]
  refine PureCall.call (toStringS_ok x.Subs (by omega) _) ?_
  simp (disch := omega) only [Ex_cond, go_sem, Nat.reduceEqDiff, Nat.reduceAdd, Nat.reduceLeDiff, reduceCtorEq, Int.reduceLT, Int.reduceLE, Int.reduceNeg, Int.reduceSub, Int.reduceAdd, ↓reduceIte, post_cell]
  exact resolve_agg _ _ rfl

theorem eqLock_ok (x : GLock) (hb : GLock.sz x ≤ 1048576) (h : List Row) : PureCall Try.prog 136 [.agg (GLock.cells x), .agg (GLock.cells x)] h (.val (.bool true)) := by
  have hsz : GLock.sz x = ByteArray.size x.Name + (szList ByteArray.size) x.Subs := rfl
  refine pure_fn mixed Try.func136 low_laws_eqLock rfl rfl ?_ h
  simp (disch := omega) only [lf_laws_eqLock, c_laws_eqLock, GLock.cells, Ex_cond, go_sem, Nat.reduceEqDiff, Nat.reduceAdd, Nat.reduceLeDiff, reduceCtorEq, Int.reduceLT, Int.reduceLE, Int.reduceNeg, Int.reduceSub, Int.reduceAdd, ↓reduceIte]
  refine PureCall.call (eqStringS_ok x.Subs (by omega) _) ?_
  simp (disch := omega) only [Ex_cond, go_sem, Nat.reduceEqDiff, Nat.reduceAdd, Nat.reduceLeDiff, reduceCtorEq, Int.reduceLT, Int.reduceLE, Int.reduceNeg, Int.reduceSub, Int.reduceAdd, ↓reduceIte]
  exact resolve_val _ _

theorem szLockS_ok (xs : List GLock) (l : Int) (h0 : 0 ≤ l) (h1 : l ≤ 1048576) (hw : wfList GLock.wf xs) (h : List Row) : PureCall Try.prog 105 [.list 0 4 (xs.map GLock.cells), .val (.int .i64 l)] h (.val (.int .i64 (szR (szList GLock.sz xs) l))) := by
  obtain ⟨hx, hs⟩ := hw
  refine pure_fn mixed Try.func105 low_laws_szLockS rfl rfl ?_ h
  simp (disch := omega) only [lf_laws_szLockS, c_laws_szLockS, Ex_cond, go_sem, Nat.reduceEqDiff, Nat.reduceAdd, Nat.reduceLeDiff, reduceCtorEq, Int.reduceLT, Int.reduceLE, Int.reduceNeg, Int.reduceSub, Int.reduceAdd, ↓reduceIte, wrap_in]
  refine ⟨fun hn => ?_, fun hn => ?_⟩
  · rw [szR_neg (by simp only [szList]; omega)]; exact resolve_val _ _
  · refine Ex_loop (fun n t h => ∃ (k : Nat) (m : Int), t 0 = .list 0 4 (xs.map GLock.cells) ∧ t 5 = .val (.int .i64 k) ∧ t 1 = .val (.int .i64 m) ∧ h = [] ∧ n = xs.length - k ∧ k ≤ xs.length ∧ 0 ≤ m ∧ m ≤ 1048576 ∧ szR (szList GLock.sz xs) l = szR (sumOf GLock.sz (xs.drop k)) m) xs.length ?_ ?_
    · exact ⟨0, l - xs.length, rfl, rfl, rfl, rfl, rfl, Nat.zero_le _, by omega, by omega, szR_sub (by omega)⟩
    · rintro J hJ n t h ⟨k, m, t0, t5, t1, rfl, rfl, hk, hm0, hm1, hS⟩
      by_cases hlt : k < xs.length
      · have hd := sumOf_drop GLock.sz xs k hlt
        have hwk := hs _ (List.getElem_mem hlt)
        rw [hd] at hS
        simp (disch := omega) only [t0, t5, t1, hlt, GLock.cells, Ex_cond, go_sem, Nat.reduceEqDiff, Nat.reduceAdd, Nat.reduceLeDiff, reduceCtorEq, Int.reduceLT, Int.reduceLE, Int.reduceNeg, Int.reduceSub, Int.reduceAdd, ↓reduceIte, wrap_in]
        refine PureCall.call (szLock_ok xs[k] m hm0 hm1 hwk []) ?_
        by_cases hc : (GLock.sz xs[k] : Int) ≤ m
        · rw [szR_pos (n := GLock.sz xs[k]) (l := m) hc]
          simp (disch := omega) only [t0, t5, t1, Ex_cond, go_sem, Nat.reduceEqDiff, Nat.reduceAdd, Nat.reduceLeDiff, reduceCtorEq, Int.reduceLT, Int.reduceLE, Int.reduceNeg, Int.reduceSub, Int.reduceAdd, ↓reduceIte, wrap_in]
          refine ⟨fun hn2 => absurd hn2 (by omega), fun _ => ?_⟩
          exact ⟨xs.length - (k + 1), by omega, hJ _ _ _ ⟨k + 1, m - GLock.sz xs[k], by simp [upd, t0], by simp [upd], by simp [upd], rfl, rfl, by omega, by omega, by omega, by rw [hS, szR_sub (by omega)]⟩⟩
        · rw [szR_neg (n := GLock.sz xs[k]) (l := m) (by omega)]
          simp (disch := omega) only [t0, t5, t1, Ex_cond, go_sem, Nat.reduceEqDiff, Nat.reduceAdd, Nat.reduceLeDiff, reduceCtorEq, Int.reduceLT, Int.reduceLE, Int.reduceNeg, Int.reduceSub, Int.reduceAdd, ↓reduceIte, wrap_in]
          rw [hS, szR_neg (by omega)]; exact resolve_val _ _
      · simp (disch := omega) only [t0, t5, t1, hlt, Ex_cond, go_sem, Nat.reduceEqDiff, Nat.reduceAdd, Nat.reduceLeDiff, reduceCtorEq, Int.reduceLT, Int.reduceLE, Int.reduceNeg, Int.reduceSub, Int.reduceAdd, ↓reduceIte]
        rw [hS, List.drop_eq_nil_of_le (by omega), szR_pos (by simp only [sumOf]; omega)]
        simp only [sumOf, Int.natCast_zero, Int.sub_zero]
        exact resolve_val _ _

theorem toLockS_ok (xs : List GLock) (hb : (szList GLock.sz) xs ≤ 1048576) (h : List Row) : PureCall Try.prog 107 [.list 0 4 (xs.map GLock.cells)] h (.list 0 4 (xs.map GLock.cells)) := by
  have hx := Nat.le_trans (szList_length (f := GLock.sz) (xs := xs)) hb
  refine pure_fn mixed Try.func107 low_laws_toLockS rfl rfl ?_ h
  simp (disch := omega) only [lf_laws_toLockS, c_laws_toLockS, Ex_cond, go_sem, Nat.reduceEqDiff, Nat.reduceAdd, Nat.reduceLeDiff, reduceCtorEq, Int.reduceLT, Int.reduceLE, Int.reduceNeg, Int.reduceSub, Int.reduceAdd, ↓reduceIte, wrap_in]
  refine ⟨by omega, by omega, ?_⟩
  refine Ex_loop (fun n t h => ∃ k : Nat, t 0 = .list 0 4 (xs.map GLock.cells) ∧ t 3 = .own 0 xs.length ∧ t 4 = .val (.int .i64 k) ∧ h = [⟨128, 4, fillTo (xs.map GLock.cells) [.val (.int .i64 0), .val (.int .i64 0), .val (.string ⟨#[]⟩), .val (.slice none 0 0)] k⟩] ∧ n = xs.length - k ∧ k ≤ xs.length) xs.length ?_ ?_
  · exact ⟨0, rfl, rfl, rfl, by rw [fillTo_zero]; simp, rfl, Nat.zero_le _⟩
  · rintro J hJ n t h ⟨k, t0, t3, t4, rfl, rfl, hk⟩
    have fl : (fillTo (xs.map GLock.cells) [.val (.int .i64 0), .val (.int .i64 0), .val (.string ⟨#[]⟩), .val (.slice none 0 0)] k).length = xs.length := by rw [fillTo_length _ _ (by simpa using hk)]; simp
    by_cases hlt : k < xs.length
    · have fg : (fillTo (xs.map GLock.cells) [.val (.int .i64 0), .val (.int .i64 0), .val (.string ⟨#[]⟩), .val (.slice none 0 0)] k)[k]? = some [.val (.int .i64 0), .val (.int .i64 0), .val (.string ⟨#[]⟩), .val (.slice none 0 0)] := fillTo_get _ _ (by simpa using hlt)
      have fs := fillTo_set' (xs.map GLock.cells) [.val (.int .i64 0), .val (.int .i64 0), .val (.string ⟨#[]⟩), .val (.slice none 0 0)] (GLock.cells xs[k]) (k := k) (by rw [List.getElem?_map, List.getElem?_eq_getElem hlt]; rfl)
      simp only [GLock.cells] at fs
      simp (disch := omega) only [t0, t3, t4, hlt, fl, fg, GLock.cells, Ex_cond, go_sem, Nat.reduceEqDiff, Nat.reduceAdd, Nat.reduceLeDiff, reduceCtorEq, Int.reduceLT, Int.reduceLE, Int.reduceNeg, Int.reduceSub, Int.reduceAdd, ↓reduceIte, wrap_in]
      refine PureCall.call (toLock_ok xs[k] (by have := szList_mem (f := GLock.sz) (List.getElem_mem hlt); omega) _) ?_
      simp (disch := omega) only [t0, t3, t4, hlt, fl, fg, fs, GLock.cells, Ex_cond, go_sem, Nat.reduceEqDiff, Nat.reduceAdd, Nat.reduceLeDiff, reduceCtorEq, Int.reduceLT, Int.reduceLE, Int.reduceNeg, Int.reduceSub, Int.reduceAdd, ↓reduceIte, wrap_in]
      exact ⟨xs.length - (k + 1), by omega, hJ _ _ _ ⟨k + 1, by simp [upd, t0], by simp [upd, t3], by simp [upd], rfl, rfl, by omega⟩⟩
    · simp (disch := omega) only [t0, t3, t4, hlt, fl, Ex_cond, go_sem, Nat.reduceEqDiff, Nat.reduceAdd, Nat.reduceLeDiff, reduceCtorEq, Int.reduceLT, Int.reduceLE, Int.reduceNeg, Int.reduceSub, Int.reduceAdd, ↓reduceIte, wrap_in]
      have ff : fillTo (xs.map GLock.cells) [.val (.int .i64 0), .val (.int .i64 0), .val (.string ⟨#[]⟩), .val (.slice none 0 0)] k = xs.map GLock.cells := fillTo_all _ _ (by simp; omega)
      rw [ff]
      exact resolve_own (r := ⟨128, 4, xs.map GLock.cells⟩) rfl (by simp) (by intro e he; obtain ⟨x, _, q⟩ := List.mem_map.1 he; subst q; rfl)

theorem eqLockS_ok (xs : List GLock) (hb : (szList GLock.sz) xs ≤ 1048576) (h : List Row) : PureCall Try.prog 113 [.list 0 4 (xs.map GLock.cells), .list 0 4 (xs.map GLock.cells)] h (.val (.bool true)) := by
  have hx := Nat.le_trans (szList_length (f := GLock.sz) (xs := xs)) hb
  refine pure_fn mixed Try.func113 low_laws_eqLockS rfl rfl ?_ h
  simp (disch := omega) only [lf_laws_eqLockS, c_laws_eqLockS, Ex_cond, go_sem, Nat.reduceEqDiff, Nat.reduceAdd, Nat.reduceLeDiff, reduceCtorEq, Int.reduceLT, Int.reduceLE, Int.reduceNeg, Int.reduceSub, Int.reduceAdd, ↓reduceIte, wrap_in]
  refine Ex_loop (fun n t h => ∃ k : Nat, t 0 = .list 0 4 (xs.map GLock.cells) ∧ t 1 = .list 0 4 (xs.map GLock.cells) ∧ t 5 = .val (.int .i64 k) ∧ h = [] ∧ n = xs.length - k ∧ k ≤ xs.length) xs.length ?_ ?_
  · exact ⟨0, rfl, rfl, rfl, rfl, rfl, Nat.zero_le _⟩
  · rintro J hJ n t h ⟨k, t0, t1, t5, rfl, rfl, hk⟩
    by_cases hlt : k < xs.length
    · simp (disch := omega) only [t0, t1, t5, hlt, GLock.cells, Ex_cond, go_sem, Nat.reduceEqDiff, Nat.reduceAdd, Nat.reduceLeDiff, reduceCtorEq, Int.reduceLT, Int.reduceLE, Int.reduceNeg, Int.reduceSub, Int.reduceAdd, ↓reduceIte, wrap_in]
      refine PureCall.q (eqLock_ok xs[k] (by have := szList_mem (f := GLock.sz) (List.getElem_mem hlt); omega) _) ?_
      simp (disch := omega) only [t0, t1, t5, hlt, GLock.cells, Ex_cond, go_sem, Nat.reduceEqDiff, Nat.reduceAdd, Nat.reduceLeDiff, reduceCtorEq, Int.reduceLT, Int.reduceLE, Int.reduceNeg, Int.reduceSub, Int.reduceAdd, ↓reduceIte, wrap_in]
      exact ⟨xs.length - (k + 1), by omega, hJ _ _ _ ⟨k + 1, by simp [upd, t0], by simp [upd, t1], by simp [upd], rfl, rfl, by omega⟩⟩
    · simp (disch := omega) only [t0, t1, t5, hlt, Ex_cond, go_sem, Nat.reduceEqDiff, Nat.reduceAdd, Nat.reduceLeDiff, reduceCtorEq, Int.reduceLT, Int.reduceLE, Int.reduceNeg, Int.reduceSub, Int.reduceAdd, ↓reduceIte, wrap_in]
      exact resolve_val _ _

theorem szAsk_ok (x : GAsk) (l : Int) (h0 : 0 ≤ l) (h1 : l ≤ 1048576) (hw : GAsk.wf x) (h : List Row) : PureCall Try.prog 133 [.agg (GAsk.cells x), .val (.int .i64 l)] h (.val (.int .i64 (szR (GAsk.sz x) l))) := by
  obtain ⟨w_Job, w_Until, w_Name, w_Subs, _⟩ := hw
  have hsz : GAsk.sz x = ByteArray.size x.Name + (szList ByteArray.size) x.Subs := rfl
  refine pure_fn mixed Try.func133 low_laws_szAsk rfl rfl ?_ h
  unfold wfStr at w_Name
  simp (disch := omega) only [lf_laws_szAsk, c_laws_szAsk, GAsk.cells, Ex_cond, go_sem, Nat.reduceEqDiff, Nat.reduceAdd, Nat.reduceLeDiff, reduceCtorEq, Int.reduceLT, Int.reduceLE, Int.reduceNeg, Int.reduceSub, Int.reduceAdd, ↓reduceIte, wrap_in]
  refine ⟨fun hn => ?_, fun hn_Name => ?_⟩
  · rw [szR_neg (by omega)]; exact resolve_val _ _
  try simp (disch := omega) only [wrap_in]
  refine PureCall.call (szStringS_ok x.Subs (l - ByteArray.size x.Name) (by omega) (by omega) w_Subs _) ?_
  by_cases hn_Subs : ((szList ByteArray.size) x.Subs : Int) ≤ l - ByteArray.size x.Name
  case neg =>
    rw [szR_neg (n := (szList ByteArray.size) x.Subs) (l := l - ByteArray.size x.Name) (by omega)]
    simp (disch := omega) only [Ex_cond, go_sem, Nat.reduceEqDiff, Nat.reduceAdd, Nat.reduceLeDiff, reduceCtorEq, Int.reduceLT, Int.reduceLE, Int.reduceNeg, Int.reduceSub, Int.reduceAdd, ↓reduceIte, wrap_in]
    rw [szR_neg (by omega)]; exact resolve_val _ _
  rw [szR_pos (n := (szList ByteArray.size) x.Subs) (l := l - ByteArray.size x.Name) hn_Subs]
  simp (disch := omega) only [Ex_cond, go_sem, Nat.reduceEqDiff, Nat.reduceAdd, Nat.reduceLeDiff, reduceCtorEq, Int.reduceLT, Int.reduceLE, Int.reduceNeg, Int.reduceSub, Int.reduceAdd, ↓reduceIte, wrap_in]
  refine ⟨fun hn => absurd hn (by omega), fun _ => ?_⟩
  rw [szR_pos (by omega), hsz]
  have hfin : l - ((ByteArray.size x.Name + (szList ByteArray.size) x.Subs : Nat) : Int) = l - ByteArray.size x.Name - (szList ByteArray.size) x.Subs := by omega
  rw [hfin]; exact resolve_val _ _

theorem toAsk_ok (x : GAsk) (hb : GAsk.sz x ≤ 1048576) (h : List Row) : PureCall Try.prog 135 [.agg (GAsk.cells x)] h (.agg (GAsk.cells x)) := by
  have hsz : GAsk.sz x = ByteArray.size x.Name + (szList ByteArray.size) x.Subs := rfl
  refine pure_fn mixed Try.func135 low_laws_toAsk rfl rfl ?_ h
  simp (disch := omega) only [lf_laws_toAsk, c_laws_toAsk, GAsk.cells, Ex_cond, go_sem, Nat.reduceEqDiff, Nat.reduceAdd, Nat.reduceLeDiff, reduceCtorEq, Int.reduceLT, Int.reduceLE, Int.reduceNeg, Int.reduceSub, Int.reduceAdd, ↓reduceIte, post_cell]
  refine PureCall.call (toStringS_ok x.Subs (by omega) _) ?_
  simp (disch := omega) only [Ex_cond, go_sem, Nat.reduceEqDiff, Nat.reduceAdd, Nat.reduceLeDiff, reduceCtorEq, Int.reduceLT, Int.reduceLE, Int.reduceNeg, Int.reduceSub, Int.reduceAdd, ↓reduceIte, post_cell]
  exact resolve_agg _ _ rfl

theorem eqAsk_ok (x : GAsk) (hb : GAsk.sz x ≤ 1048576) (h : List Row) : PureCall Try.prog 137 [.agg (GAsk.cells x), .agg (GAsk.cells x)] h (.val (.bool true)) := by
  have hsz : GAsk.sz x = ByteArray.size x.Name + (szList ByteArray.size) x.Subs := rfl
  refine pure_fn mixed Try.func137 low_laws_eqAsk rfl rfl ?_ h
  simp (disch := omega) only [lf_laws_eqAsk, c_laws_eqAsk, GAsk.cells, Ex_cond, go_sem, Nat.reduceEqDiff, Nat.reduceAdd, Nat.reduceLeDiff, reduceCtorEq, Int.reduceLT, Int.reduceLE, Int.reduceNeg, Int.reduceSub, Int.reduceAdd, ↓reduceIte]
  refine PureCall.call (eqStringS_ok x.Subs (by omega) _) ?_
  simp (disch := omega) only [Ex_cond, go_sem, Nat.reduceEqDiff, Nat.reduceAdd, Nat.reduceLeDiff, reduceCtorEq, Int.reduceLT, Int.reduceLE, Int.reduceNeg, Int.reduceSub, Int.reduceAdd, ↓reduceIte]
  exact resolve_val _ _

theorem szAskS_ok (xs : List GAsk) (l : Int) (h0 : 0 ≤ l) (h1 : l ≤ 1048576) (hw : wfList GAsk.wf xs) (h : List Row) : PureCall Try.prog 106 [.list 0 4 (xs.map GAsk.cells), .val (.int .i64 l)] h (.val (.int .i64 (szR (szList GAsk.sz xs) l))) := by
  obtain ⟨hx, hs⟩ := hw
  refine pure_fn mixed Try.func106 low_laws_szAskS rfl rfl ?_ h
  simp (disch := omega) only [lf_laws_szAskS, c_laws_szAskS, Ex_cond, go_sem, Nat.reduceEqDiff, Nat.reduceAdd, Nat.reduceLeDiff, reduceCtorEq, Int.reduceLT, Int.reduceLE, Int.reduceNeg, Int.reduceSub, Int.reduceAdd, ↓reduceIte, wrap_in]
  refine ⟨fun hn => ?_, fun hn => ?_⟩
  · rw [szR_neg (by simp only [szList]; omega)]; exact resolve_val _ _
  · refine Ex_loop (fun n t h => ∃ (k : Nat) (m : Int), t 0 = .list 0 4 (xs.map GAsk.cells) ∧ t 5 = .val (.int .i64 k) ∧ t 1 = .val (.int .i64 m) ∧ h = [] ∧ n = xs.length - k ∧ k ≤ xs.length ∧ 0 ≤ m ∧ m ≤ 1048576 ∧ szR (szList GAsk.sz xs) l = szR (sumOf GAsk.sz (xs.drop k)) m) xs.length ?_ ?_
    · exact ⟨0, l - xs.length, rfl, rfl, rfl, rfl, rfl, Nat.zero_le _, by omega, by omega, szR_sub (by omega)⟩
    · rintro J hJ n t h ⟨k, m, t0, t5, t1, rfl, rfl, hk, hm0, hm1, hS⟩
      by_cases hlt : k < xs.length
      · have hd := sumOf_drop GAsk.sz xs k hlt
        have hwk := hs _ (List.getElem_mem hlt)
        rw [hd] at hS
        simp (disch := omega) only [t0, t5, t1, hlt, GAsk.cells, Ex_cond, go_sem, Nat.reduceEqDiff, Nat.reduceAdd, Nat.reduceLeDiff, reduceCtorEq, Int.reduceLT, Int.reduceLE, Int.reduceNeg, Int.reduceSub, Int.reduceAdd, ↓reduceIte, wrap_in]
        refine PureCall.call (szAsk_ok xs[k] m hm0 hm1 hwk []) ?_
        by_cases hc : (GAsk.sz xs[k] : Int) ≤ m
        · rw [szR_pos (n := GAsk.sz xs[k]) (l := m) hc]
          simp (disch := omega) only [t0, t5, t1, Ex_cond, go_sem, Nat.reduceEqDiff, Nat.reduceAdd, Nat.reduceLeDiff, reduceCtorEq, Int.reduceLT, Int.reduceLE, Int.reduceNeg, Int.reduceSub, Int.reduceAdd, ↓reduceIte, wrap_in]
          refine ⟨fun hn2 => absurd hn2 (by omega), fun _ => ?_⟩
          exact ⟨xs.length - (k + 1), by omega, hJ _ _ _ ⟨k + 1, m - GAsk.sz xs[k], by simp [upd, t0], by simp [upd], by simp [upd], rfl, rfl, by omega, by omega, by omega, by rw [hS, szR_sub (by omega)]⟩⟩
        · rw [szR_neg (n := GAsk.sz xs[k]) (l := m) (by omega)]
          simp (disch := omega) only [t0, t5, t1, Ex_cond, go_sem, Nat.reduceEqDiff, Nat.reduceAdd, Nat.reduceLeDiff, reduceCtorEq, Int.reduceLT, Int.reduceLE, Int.reduceNeg, Int.reduceSub, Int.reduceAdd, ↓reduceIte, wrap_in]
          rw [hS, szR_neg (by omega)]; exact resolve_val _ _
      · simp (disch := omega) only [t0, t5, t1, hlt, Ex_cond, go_sem, Nat.reduceEqDiff, Nat.reduceAdd, Nat.reduceLeDiff, reduceCtorEq, Int.reduceLT, Int.reduceLE, Int.reduceNeg, Int.reduceSub, Int.reduceAdd, ↓reduceIte]
        rw [hS, List.drop_eq_nil_of_le (by omega), szR_pos (by simp only [sumOf]; omega)]
        simp only [sumOf, Int.natCast_zero, Int.sub_zero]
        exact resolve_val _ _

theorem toAskS_ok (xs : List GAsk) (hb : (szList GAsk.sz) xs ≤ 1048576) (h : List Row) : PureCall Try.prog 108 [.list 0 4 (xs.map GAsk.cells)] h (.list 0 4 (xs.map GAsk.cells)) := by
  have hx := Nat.le_trans (szList_length (f := GAsk.sz) (xs := xs)) hb
  refine pure_fn mixed Try.func108 low_laws_toAskS rfl rfl ?_ h
  simp (disch := omega) only [lf_laws_toAskS, c_laws_toAskS, Ex_cond, go_sem, Nat.reduceEqDiff, Nat.reduceAdd, Nat.reduceLeDiff, reduceCtorEq, Int.reduceLT, Int.reduceLE, Int.reduceNeg, Int.reduceSub, Int.reduceAdd, ↓reduceIte, wrap_in]
  refine ⟨by omega, by omega, ?_⟩
  refine Ex_loop (fun n t h => ∃ k : Nat, t 0 = .list 0 4 (xs.map GAsk.cells) ∧ t 3 = .own 0 xs.length ∧ t 4 = .val (.int .i64 k) ∧ h = [⟨130, 4, fillTo (xs.map GAsk.cells) [.val (.int .i64 0), .val (.int .i64 0), .val (.string ⟨#[]⟩), .val (.slice none 0 0)] k⟩] ∧ n = xs.length - k ∧ k ≤ xs.length) xs.length ?_ ?_
  · exact ⟨0, rfl, rfl, rfl, by rw [fillTo_zero]; simp, rfl, Nat.zero_le _⟩
  · rintro J hJ n t h ⟨k, t0, t3, t4, rfl, rfl, hk⟩
    have fl : (fillTo (xs.map GAsk.cells) [.val (.int .i64 0), .val (.int .i64 0), .val (.string ⟨#[]⟩), .val (.slice none 0 0)] k).length = xs.length := by rw [fillTo_length _ _ (by simpa using hk)]; simp
    by_cases hlt : k < xs.length
    · have fg : (fillTo (xs.map GAsk.cells) [.val (.int .i64 0), .val (.int .i64 0), .val (.string ⟨#[]⟩), .val (.slice none 0 0)] k)[k]? = some [.val (.int .i64 0), .val (.int .i64 0), .val (.string ⟨#[]⟩), .val (.slice none 0 0)] := fillTo_get _ _ (by simpa using hlt)
      have fs := fillTo_set' (xs.map GAsk.cells) [.val (.int .i64 0), .val (.int .i64 0), .val (.string ⟨#[]⟩), .val (.slice none 0 0)] (GAsk.cells xs[k]) (k := k) (by rw [List.getElem?_map, List.getElem?_eq_getElem hlt]; rfl)
      simp only [GAsk.cells] at fs
      simp (disch := omega) only [t0, t3, t4, hlt, fl, fg, GAsk.cells, Ex_cond, go_sem, Nat.reduceEqDiff, Nat.reduceAdd, Nat.reduceLeDiff, reduceCtorEq, Int.reduceLT, Int.reduceLE, Int.reduceNeg, Int.reduceSub, Int.reduceAdd, ↓reduceIte, wrap_in]
      refine PureCall.call (toAsk_ok xs[k] (by have := szList_mem (f := GAsk.sz) (List.getElem_mem hlt); omega) _) ?_
      simp (disch := omega) only [t0, t3, t4, hlt, fl, fg, fs, GAsk.cells, Ex_cond, go_sem, Nat.reduceEqDiff, Nat.reduceAdd, Nat.reduceLeDiff, reduceCtorEq, Int.reduceLT, Int.reduceLE, Int.reduceNeg, Int.reduceSub, Int.reduceAdd, ↓reduceIte, wrap_in]
      exact ⟨xs.length - (k + 1), by omega, hJ _ _ _ ⟨k + 1, by simp [upd, t0], by simp [upd, t3], by simp [upd], rfl, rfl, by omega⟩⟩
    · simp (disch := omega) only [t0, t3, t4, hlt, fl, Ex_cond, go_sem, Nat.reduceEqDiff, Nat.reduceAdd, Nat.reduceLeDiff, reduceCtorEq, Int.reduceLT, Int.reduceLE, Int.reduceNeg, Int.reduceSub, Int.reduceAdd, ↓reduceIte, wrap_in]
      have ff : fillTo (xs.map GAsk.cells) [.val (.int .i64 0), .val (.int .i64 0), .val (.string ⟨#[]⟩), .val (.slice none 0 0)] k = xs.map GAsk.cells := fillTo_all _ _ (by simp; omega)
      rw [ff]
      exact resolve_own (r := ⟨130, 4, xs.map GAsk.cells⟩) rfl (by simp) (by intro e he; obtain ⟨x, _, q⟩ := List.mem_map.1 he; subst q; rfl)

theorem eqAskS_ok (xs : List GAsk) (hb : (szList GAsk.sz) xs ≤ 1048576) (h : List Row) : PureCall Try.prog 114 [.list 0 4 (xs.map GAsk.cells), .list 0 4 (xs.map GAsk.cells)] h (.val (.bool true)) := by
  have hx := Nat.le_trans (szList_length (f := GAsk.sz) (xs := xs)) hb
  refine pure_fn mixed Try.func114 low_laws_eqAskS rfl rfl ?_ h
  simp (disch := omega) only [lf_laws_eqAskS, c_laws_eqAskS, Ex_cond, go_sem, Nat.reduceEqDiff, Nat.reduceAdd, Nat.reduceLeDiff, reduceCtorEq, Int.reduceLT, Int.reduceLE, Int.reduceNeg, Int.reduceSub, Int.reduceAdd, ↓reduceIte, wrap_in]
  refine Ex_loop (fun n t h => ∃ k : Nat, t 0 = .list 0 4 (xs.map GAsk.cells) ∧ t 1 = .list 0 4 (xs.map GAsk.cells) ∧ t 5 = .val (.int .i64 k) ∧ h = [] ∧ n = xs.length - k ∧ k ≤ xs.length) xs.length ?_ ?_
  · exact ⟨0, rfl, rfl, rfl, rfl, rfl, Nat.zero_le _⟩
  · rintro J hJ n t h ⟨k, t0, t1, t5, rfl, rfl, hk⟩
    by_cases hlt : k < xs.length
    · simp (disch := omega) only [t0, t1, t5, hlt, GAsk.cells, Ex_cond, go_sem, Nat.reduceEqDiff, Nat.reduceAdd, Nat.reduceLeDiff, reduceCtorEq, Int.reduceLT, Int.reduceLE, Int.reduceNeg, Int.reduceSub, Int.reduceAdd, ↓reduceIte, wrap_in]
      refine PureCall.q (eqAsk_ok xs[k] (by have := szList_mem (f := GAsk.sz) (List.getElem_mem hlt); omega) _) ?_
      simp (disch := omega) only [t0, t1, t5, hlt, GAsk.cells, Ex_cond, go_sem, Nat.reduceEqDiff, Nat.reduceAdd, Nat.reduceLeDiff, reduceCtorEq, Int.reduceLT, Int.reduceLE, Int.reduceNeg, Int.reduceSub, Int.reduceAdd, ↓reduceIte, wrap_in]
      exact ⟨xs.length - (k + 1), by omega, hJ _ _ _ ⟨k + 1, by simp [upd, t0], by simp [upd, t1], by simp [upd], rfl, rfl, by omega⟩⟩
    · simp (disch := omega) only [t0, t1, t5, hlt, Ex_cond, go_sem, Nat.reduceEqDiff, Nat.reduceAdd, Nat.reduceLeDiff, reduceCtorEq, Int.reduceLT, Int.reduceLE, Int.reduceNeg, Int.reduceSub, Int.reduceAdd, ↓reduceIte, wrap_in]
      exact resolve_val _ _

theorem szLocks_ok (x : GLocks) (l : Int) (h0 : 0 ≤ l) (h1 : l ≤ 1048576) (hw : GLocks.wf x) (h : List Row) : PureCall Try.prog 54 [.agg (GLocks.cells x), .val (.int .i64 l)] h (.val (.int .i64 (szR (GLocks.sz x) l))) := by
  obtain ⟨w_Held, w_Asks, _⟩ := hw
  have hsz : GLocks.sz x = (szList GLock.sz) x.Held + (szList GAsk.sz) x.Asks := rfl
  refine pure_fn mixed Try.func54 low_laws_szLocks rfl rfl ?_ h
  simp (disch := omega) only [lf_laws_szLocks, c_laws_szLocks, GLocks.cells, Ex_cond, go_sem, Nat.reduceEqDiff, Nat.reduceAdd, Nat.reduceLeDiff, reduceCtorEq, Int.reduceLT, Int.reduceLE, Int.reduceNeg, Int.reduceSub, Int.reduceAdd, ↓reduceIte, wrap_in]
  refine PureCall.call (szLockS_ok x.Held (l) (by omega) (by omega) w_Held _) ?_
  by_cases hn_Held : ((szList GLock.sz) x.Held : Int) ≤ l
  case neg =>
    rw [szR_neg (n := (szList GLock.sz) x.Held) (l := l) (by omega)]
    simp (disch := omega) only [Ex_cond, go_sem, Nat.reduceEqDiff, Nat.reduceAdd, Nat.reduceLeDiff, reduceCtorEq, Int.reduceLT, Int.reduceLE, Int.reduceNeg, Int.reduceSub, Int.reduceAdd, ↓reduceIte, wrap_in]
    rw [szR_neg (by omega)]; exact resolve_val _ _
  rw [szR_pos (n := (szList GLock.sz) x.Held) (l := l) hn_Held]
  simp (disch := omega) only [Ex_cond, go_sem, Nat.reduceEqDiff, Nat.reduceAdd, Nat.reduceLeDiff, reduceCtorEq, Int.reduceLT, Int.reduceLE, Int.reduceNeg, Int.reduceSub, Int.reduceAdd, ↓reduceIte, wrap_in]
  refine ⟨fun hn => absurd hn (by omega), fun _ => ?_⟩
  refine PureCall.call (szAskS_ok x.Asks (l - (szList GLock.sz) x.Held) (by omega) (by omega) w_Asks _) ?_
  by_cases hn_Asks : ((szList GAsk.sz) x.Asks : Int) ≤ l - (szList GLock.sz) x.Held
  case neg =>
    rw [szR_neg (n := (szList GAsk.sz) x.Asks) (l := l - (szList GLock.sz) x.Held) (by omega)]
    simp (disch := omega) only [Ex_cond, go_sem, Nat.reduceEqDiff, Nat.reduceAdd, Nat.reduceLeDiff, reduceCtorEq, Int.reduceLT, Int.reduceLE, Int.reduceNeg, Int.reduceSub, Int.reduceAdd, ↓reduceIte, wrap_in]
    rw [szR_neg (by omega)]; exact resolve_val _ _
  rw [szR_pos (n := (szList GAsk.sz) x.Asks) (l := l - (szList GLock.sz) x.Held) hn_Asks]
  simp (disch := omega) only [Ex_cond, go_sem, Nat.reduceEqDiff, Nat.reduceAdd, Nat.reduceLeDiff, reduceCtorEq, Int.reduceLT, Int.reduceLE, Int.reduceNeg, Int.reduceSub, Int.reduceAdd, ↓reduceIte, wrap_in]
  refine ⟨fun hn => absurd hn (by omega), fun _ => ?_⟩
  rw [szR_pos (by omega), hsz]
  have hfin : l - (((szList GLock.sz) x.Held + (szList GAsk.sz) x.Asks : Nat) : Int) = l - (szList GLock.sz) x.Held - (szList GAsk.sz) x.Asks := by omega
  rw [hfin]; exact resolve_val _ _

theorem toLocks_ok (x : GLocks) (hb : GLocks.sz x ≤ 1048576) (h : List Row) : PureCall Try.prog 56 [.agg (GLocks.cells x)] h (.agg (GLocks.cells x)) := by
  have hsz : GLocks.sz x = (szList GLock.sz) x.Held + (szList GAsk.sz) x.Asks := rfl
  refine pure_fn mixed Try.func56 low_laws_toLocks rfl rfl ?_ h
  simp (disch := omega) only [lf_laws_toLocks, c_laws_toLocks, GLocks.cells, Ex_cond, go_sem, Nat.reduceEqDiff, Nat.reduceAdd, Nat.reduceLeDiff, reduceCtorEq, Int.reduceLT, Int.reduceLE, Int.reduceNeg, Int.reduceSub, Int.reduceAdd, ↓reduceIte, post_cell]
  refine PureCall.call (toLockS_ok x.Held (by omega) _) ?_
  simp (disch := omega) only [Ex_cond, go_sem, Nat.reduceEqDiff, Nat.reduceAdd, Nat.reduceLeDiff, reduceCtorEq, Int.reduceLT, Int.reduceLE, Int.reduceNeg, Int.reduceSub, Int.reduceAdd, ↓reduceIte, post_cell]
  refine PureCall.call (toAskS_ok x.Asks (by omega) _) ?_
  simp (disch := omega) only [Ex_cond, go_sem, Nat.reduceEqDiff, Nat.reduceAdd, Nat.reduceLeDiff, reduceCtorEq, Int.reduceLT, Int.reduceLE, Int.reduceNeg, Int.reduceSub, Int.reduceAdd, ↓reduceIte, post_cell]
  exact resolve_agg _ _ rfl

theorem eqLocks_ok (x : GLocks) (hb : GLocks.sz x ≤ 1048576) (h : List Row) : PureCall Try.prog 58 [.agg (GLocks.cells x), .agg (GLocks.cells x)] h (.val (.bool true)) := by
  have hsz : GLocks.sz x = (szList GLock.sz) x.Held + (szList GAsk.sz) x.Asks := rfl
  refine pure_fn mixed Try.func58 low_laws_eqLocks rfl rfl ?_ h
  simp (disch := omega) only [lf_laws_eqLocks, c_laws_eqLocks, GLocks.cells, Ex_cond, go_sem, Nat.reduceEqDiff, Nat.reduceAdd, Nat.reduceLeDiff, reduceCtorEq, Int.reduceLT, Int.reduceLE, Int.reduceNeg, Int.reduceSub, Int.reduceAdd, ↓reduceIte]
  refine PureCall.call (eqLockS_ok x.Held (by omega) _) ?_
  simp (disch := omega) only [Ex_cond, go_sem, Nat.reduceEqDiff, Nat.reduceAdd, Nat.reduceLeDiff, reduceCtorEq, Int.reduceLT, Int.reduceLE, Int.reduceNeg, Int.reduceSub, Int.reduceAdd, ↓reduceIte]
  refine PureCall.call (eqAskS_ok x.Asks (by omega) _) ?_
  simp (disch := omega) only [Ex_cond, go_sem, Nat.reduceEqDiff, Nat.reduceAdd, Nat.reduceLeDiff, reduceCtorEq, Int.reduceLT, Int.reduceLE, Int.reduceNeg, Int.reduceSub, Int.reduceAdd, ↓reduceIte]
  exact resolve_val _ _

theorem szChange_ok (x : GChange) (l : Int) (h0 : 0 ≤ l) (h1 : l ≤ 1048576) (hw : GChange.wf x) (h : List Row) : PureCall Try.prog 59 [.agg (GChange.cells x), .val (.int .i64 l)] h (.val (.int .i64 (szR (GChange.sz x) l))) := by
  obtain ⟨w_Kind, w_Name, w_Subs, w_Value, _⟩ := hw
  have hsz : GChange.sz x = ByteArray.size x.Name + (szList ByteArray.size) x.Subs + ByteArray.size x.Value := rfl
  refine pure_fn mixed Try.func59 low_laws_szChange rfl rfl ?_ h
  unfold wfStr at w_Name
  unfold wfStr at w_Value
  simp (disch := omega) only [lf_laws_szChange, c_laws_szChange, GChange.cells, Ex_cond, go_sem, Nat.reduceEqDiff, Nat.reduceAdd, Nat.reduceLeDiff, reduceCtorEq, Int.reduceLT, Int.reduceLE, Int.reduceNeg, Int.reduceSub, Int.reduceAdd, ↓reduceIte, wrap_in]
  refine ⟨fun hn => ?_, fun hn_Name => ?_⟩
  · rw [szR_neg (by omega)]; exact resolve_val _ _
  try simp (disch := omega) only [wrap_in]
  refine PureCall.call (szStringS_ok x.Subs (l - ByteArray.size x.Name) (by omega) (by omega) w_Subs _) ?_
  by_cases hn_Subs : ((szList ByteArray.size) x.Subs : Int) ≤ l - ByteArray.size x.Name
  case neg =>
    rw [szR_neg (n := (szList ByteArray.size) x.Subs) (l := l - ByteArray.size x.Name) (by omega)]
    simp (disch := omega) only [Ex_cond, go_sem, Nat.reduceEqDiff, Nat.reduceAdd, Nat.reduceLeDiff, reduceCtorEq, Int.reduceLT, Int.reduceLE, Int.reduceNeg, Int.reduceSub, Int.reduceAdd, ↓reduceIte, wrap_in]
    rw [szR_neg (by omega)]; exact resolve_val _ _
  rw [szR_pos (n := (szList ByteArray.size) x.Subs) (l := l - ByteArray.size x.Name) hn_Subs]
  simp (disch := omega) only [Ex_cond, go_sem, Nat.reduceEqDiff, Nat.reduceAdd, Nat.reduceLeDiff, reduceCtorEq, Int.reduceLT, Int.reduceLE, Int.reduceNeg, Int.reduceSub, Int.reduceAdd, ↓reduceIte, wrap_in]
  refine ⟨fun hn => absurd hn (by omega), fun _ => ?_⟩
  refine ⟨fun hn => ?_, fun hn_Value => ?_⟩
  · rw [szR_neg (by omega)]; exact resolve_val _ _
  try simp (disch := omega) only [wrap_in]
  rw [szR_pos (by omega), hsz]
  have hfin : l - ((ByteArray.size x.Name + (szList ByteArray.size) x.Subs + ByteArray.size x.Value : Nat) : Int) = l - ByteArray.size x.Name - (szList ByteArray.size) x.Subs - ByteArray.size x.Value := by omega
  rw [hfin]; exact resolve_val _ _

theorem toChange_ok (x : GChange) (hb : GChange.sz x ≤ 1048576) (h : List Row) : PureCall Try.prog 61 [.agg (GChange.cells x)] h (.agg (GChange.cells x)) := by
  have hsz : GChange.sz x = ByteArray.size x.Name + (szList ByteArray.size) x.Subs + ByteArray.size x.Value := rfl
  refine pure_fn mixed Try.func61 low_laws_toChange rfl rfl ?_ h
  simp (disch := omega) only [lf_laws_toChange, c_laws_toChange, GChange.cells, Ex_cond, go_sem, Nat.reduceEqDiff, Nat.reduceAdd, Nat.reduceLeDiff, reduceCtorEq, Int.reduceLT, Int.reduceLE, Int.reduceNeg, Int.reduceSub, Int.reduceAdd, ↓reduceIte, post_cell]
  refine PureCall.call (toStringS_ok x.Subs (by omega) _) ?_
  simp (disch := omega) only [Ex_cond, go_sem, Nat.reduceEqDiff, Nat.reduceAdd, Nat.reduceLeDiff, reduceCtorEq, Int.reduceLT, Int.reduceLE, Int.reduceNeg, Int.reduceSub, Int.reduceAdd, ↓reduceIte, post_cell]
  exact resolve_agg _ _ rfl

theorem eqChange_ok (x : GChange) (hb : GChange.sz x ≤ 1048576) (h : List Row) : PureCall Try.prog 63 [.agg (GChange.cells x), .agg (GChange.cells x)] h (.val (.bool true)) := by
  have hsz : GChange.sz x = ByteArray.size x.Name + (szList ByteArray.size) x.Subs + ByteArray.size x.Value := rfl
  refine pure_fn mixed Try.func63 low_laws_eqChange rfl rfl ?_ h
  simp (disch := omega) only [lf_laws_eqChange, c_laws_eqChange, GChange.cells, Ex_cond, go_sem, Nat.reduceEqDiff, Nat.reduceAdd, Nat.reduceLeDiff, reduceCtorEq, Int.reduceLT, Int.reduceLE, Int.reduceNeg, Int.reduceSub, Int.reduceAdd, ↓reduceIte]
  refine PureCall.call (eqStringS_ok x.Subs (by omega) _) ?_
  simp (disch := omega) only [Ex_cond, go_sem, Nat.reduceEqDiff, Nat.reduceAdd, Nat.reduceLeDiff, reduceCtorEq, Int.reduceLT, Int.reduceLE, Int.reduceNeg, Int.reduceSub, Int.reduceAdd, ↓reduceIte]
  exact resolve_val _ _

theorem eqInt64S_ok (xs : List Int) (hb : (szList (fun _ => 0)) xs ≤ 1048576) (h : List Row) : PureCall Try.prog 70 [.list 0 1 (xs.map cInt), .list 0 1 (xs.map cInt)] h (.val (.bool true)) := by
  have hx := Nat.le_trans (szList_length (f := (fun _ => 0)) (xs := xs)) hb
  refine pure_fn mixed Try.func70 low_laws_eqInt64S rfl rfl ?_ h
  simp (disch := omega) only [lf_laws_eqInt64S, c_laws_eqInt64S, Ex_cond, go_sem, Nat.reduceEqDiff, Nat.reduceAdd, Nat.reduceLeDiff, reduceCtorEq, Int.reduceLT, Int.reduceLE, Int.reduceNeg, Int.reduceSub, Int.reduceAdd, ↓reduceIte, wrap_in]
  refine Ex_loop (fun n t h => ∃ k : Nat, t 0 = .list 0 1 (xs.map cInt) ∧ t 1 = .list 0 1 (xs.map cInt) ∧ t 5 = .val (.int .i64 k) ∧ h = [] ∧ n = xs.length - k ∧ k ≤ xs.length) xs.length ?_ ?_
  · exact ⟨0, rfl, rfl, rfl, rfl, rfl, Nat.zero_le _⟩
  · rintro J hJ n t h ⟨k, t0, t1, t5, rfl, rfl, hk⟩
    by_cases hlt : k < xs.length
    · simp (disch := omega) only [t0, t1, t5, hlt, Ex_cond, go_sem, Nat.reduceEqDiff, Nat.reduceAdd, Nat.reduceLeDiff, reduceCtorEq, Int.reduceLT, Int.reduceLE, Int.reduceNeg, Int.reduceSub, Int.reduceAdd, ↓reduceIte, wrap_in]
      exact ⟨xs.length - (k + 1), by omega, hJ _ _ _ ⟨k + 1, by simp [upd, t0], by simp [upd, t1], by simp [upd], rfl, rfl, by omega⟩⟩
    · simp (disch := omega) only [t0, t1, t5, hlt, Ex_cond, go_sem, Nat.reduceEqDiff, Nat.reduceAdd, Nat.reduceLeDiff, reduceCtorEq, Int.reduceLT, Int.reduceLE, Int.reduceNeg, Int.reduceSub, Int.reduceAdd, ↓reduceIte, wrap_in]
      exact resolve_val _ _

end Go.Proofs.Ytfgoppodacapdaa
