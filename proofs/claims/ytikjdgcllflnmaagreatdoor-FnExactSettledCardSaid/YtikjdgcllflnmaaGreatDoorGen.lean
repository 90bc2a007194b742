/-
  Contracts of the laws own functions that count, copy and compare data. Conditions: as each theorem says, sizes up to 1048576.
-/
import Derived.Test.YtikjdgcllflnmaaGreatDoorDat
namespace Go.Proofs.YtikjdgcllflnmaaGreatDoor
open Go.AW
set_option linter.unusedVariables false
set_option linter.unusedSimpArgs false

theorem mixed : Tryz.prog.follows .mixedOrders = true := by kernel_rfl

/-- laws.szStringS -/
def c_laws_szStringS : LC :=
  .seq (.ops [⟨some 4, none, .mov (.const (.int .i64 0))⟩])
  (.seq (.ops [⟨some 6, none, .mov (.tmp 1)⟩,
    ⟨some 7, none, .mov (.tmp 0)⟩,
    ⟨some 8, none, .lenSl (.tmp 7)⟩,
    ⟨some 9, none, .bin .sub false (.tmp 6) (.tmp 8)⟩,
    ⟨some 1, none, .mov (.tmp 9)⟩])
  (.seq (.seq (.ops [⟨some 10, none, .mov (.tmp 1)⟩,
     ⟨some 11, none, .bin .lss false (.tmp 10) (.const (.int .i64 0))⟩])
   (.cond (.tmp 11)
    (.seq (.ops [⟨some 4, none, .mov (.const (.int .i64 (-1)))⟩])
     (.ret))
    (.skip)))
  (.seq (.seq (.ops [⟨some 5, none, .mov (.const (.int .i64 0))⟩])
   (.block 0 (.loop (.seq (.seq (.ops [⟨some 12, none, .mov (.tmp 5)⟩,
        ⟨some 13, none, .mov (.tmp 0)⟩,
        ⟨some 14, none, .lenSl (.tmp 13)⟩,
        ⟨some 15, none, .bin .lss false (.tmp 12) (.tmp 14)⟩])
      (.cond (.tmp 15)
       (.skip)
       (.exit 0)))
     (.seq (.block 1 (.seq (.ops [⟨some 18, none, .mov (.tmp 1)⟩,
         ⟨some 19, none, .mov (.tmp 0)⟩,
         ⟨some 20, none, .mov (.tmp 5)⟩,
         ⟨some 21, none, .indexAddr 1 (.tmp 19) (.tmp 20)⟩,
         ⟨some 22, none, .load none (.tmp 21)⟩,
         ⟨some 23, none, .lenStr (.tmp 22)⟩,
         ⟨some 24, none, .bin .sub false (.tmp 18) (.tmp 23)⟩,
         ⟨some 1, none, .mov (.tmp 24)⟩])
       (.seq (.ops [⟨some 25, none, .mov (.tmp 1)⟩,
         ⟨some 26, none, .bin .lss false (.tmp 25) (.const (.int .i64 0))⟩])
       (.cond (.tmp 26)
        (.seq (.ops [⟨some 4, none, .mov (.const (.int .i64 (-1)))⟩])
         (.ret))
        (.skip)))))
     (.ops [⟨some 16, none, .mov (.tmp 5)⟩,
      ⟨some 17, none, .bin .add false (.tmp 16) (.const (.int .i64 1))⟩,
      ⟨some 5, none, .mov (.tmp 17)⟩]))))))
  (.seq (.ops [⟨some 27, none, .mov (.tmp 1)⟩,
    ⟨some 4, none, .mov (.tmp 27)⟩])
  (.ret)))))
def lf_laws_szStringS : LF := { np := 2, N := 28, body := c_laws_szStringS, res := [.tmp 4] }
theorem low_laws_szStringS : LowF Tryz.prog Tryz.f17 lf_laws_szStringS := LowF.mk' (by kernel_rfl) (by kernel_rfl) (by kernel_rfl) (by decide)

/-- laws.toStringS -/
def c_laws_toStringS : LC :=
  .seq (.ops [⟨some 2, none, .mov (.const (.slice none 0 0))⟩])
  (.seq (.ops [⟨some 5, none, .mov (.tmp 0)⟩,
    ⟨some 6, none, .lenSl (.tmp 5)⟩,
    ⟨some 7, none, .mkSlice 9 1 16 (.string ⟨#[]⟩) (.tmp 6) (.tmp 6)⟩,
    ⟨some 3, none, .mov (.tmp 7)⟩])
  (.seq (.seq (.ops [⟨some 4, none, .mov (.const (.int .i64 0))⟩])
   (.block 0 (.loop (.seq (.seq (.ops [⟨some 8, none, .mov (.tmp 4)⟩,
        ⟨some 9, none, .mov (.tmp 0)⟩,
        ⟨some 10, none, .lenSl (.tmp 9)⟩,
        ⟨some 11, none, .bin .lss false (.tmp 8) (.tmp 10)⟩])
      (.cond (.tmp 11)
       (.skip)
       (.exit 0)))
     (.seq (.block 1 (.ops [⟨some 14, none, .mov (.tmp 3)⟩,
        ⟨some 15, none, .mov (.tmp 4)⟩,
        ⟨some 16, none, .mov (.tmp 0)⟩,
        ⟨some 17, none, .mov (.tmp 4)⟩,
        ⟨some 18, none, .indexAddr 1 (.tmp 16) (.tmp 17)⟩,
        ⟨some 19, none, .load none (.tmp 18)⟩,
        ⟨some 20, none, .indexAddr 1 (.tmp 14) (.tmp 15)⟩,
        ⟨none, none, .store 1 (.tmp 20) (.tmp 19)⟩]))
     (.ops [⟨some 12, none, .mov (.tmp 4)⟩,
      ⟨some 13, none, .bin .add false (.tmp 12) (.const (.int .i64 1))⟩,
      ⟨some 4, none, .mov (.tmp 13)⟩]))))))
  (.seq (.ops [⟨some 21, none, .mov (.tmp 3)⟩,
    ⟨some 2, none, .mov (.tmp 21)⟩])
  (.ret))))
def lf_laws_toStringS : LF := { np := 1, N := 22, body := c_laws_toStringS, res := [.tmp 2] }
theorem low_laws_toStringS : LowF Tryz.prog Tryz.f19 lf_laws_toStringS := LowF.mk' (by kernel_rfl) (by kernel_rfl) (by kernel_rfl) (by decide)

/-- laws.eqStringS -/
def c_laws_eqStringS : LC :=
  .seq (.ops [⟨some 4, none, .mov (.const (.bool false))⟩])
  (.seq (.seq (.ops [⟨some 6, none, .mov (.tmp 0)⟩,
     ⟨some 7, none, .lenSl (.tmp 6)⟩,
     ⟨some 8, none, .mov (.tmp 1)⟩,
     ⟨some 9, none, .lenSl (.tmp 8)⟩,
     ⟨some 10, none, .bin .neq false (.tmp 7) (.tmp 9)⟩])
   (.cond (.tmp 10)
    (.seq (.ops [⟨some 4, none, .mov (.const (.bool false))⟩])
     (.ret))
    (.skip)))
  (.seq (.seq (.ops [⟨some 5, none, .mov (.const (.int .i64 0))⟩])
   (.block 0 (.loop (.seq (.seq (.ops [⟨some 11, none, .mov (.tmp 5)⟩,
        ⟨some 12, none, .mov (.tmp 0)⟩,
        ⟨some 13, none, .lenSl (.tmp 12)⟩,
        ⟨some 14, none, .bin .lss false (.tmp 11) (.tmp 13)⟩])
      (.cond (.tmp 14)
       (.skip)
       (.exit 0)))
     (.seq (.block 1 (.seq (.dops [⟨some 17, none, .mov (.tmp 0)⟩,
         ⟨some 18, none, .mov (.tmp 5)⟩,
         ⟨some 19, none, .indexAddr 1 (.tmp 17) (.tmp 18)⟩,
         ⟨some 20, none, .load none (.tmp 19)⟩,
         ⟨some 21, none, .mov (.tmp 1)⟩,
         ⟨some 22, none, .mov (.tmp 5)⟩,
         ⟨some 23, none, .indexAddr 1 (.tmp 21) (.tmp 22)⟩,
         ⟨some 24, none, .load none (.tmp 23)⟩,
         ⟨some 25, none, .bin .neq false (.tmp 20) (.tmp 24)⟩])
       (.cond (.tmp 25)
        (.seq (.ops [⟨some 4, none, .mov (.const (.bool false))⟩])
         (.ret))
        (.skip))))
     (.ops [⟨some 15, none, .mov (.tmp 5)⟩,
      ⟨some 16, none, .bin .add false (.tmp 15) (.const (.int .i64 1))⟩,
      ⟨some 5, none, .mov (.tmp 16)⟩]))))))
  (.seq (.ops [⟨some 4, none, .mov (.const (.bool true))⟩])
  (.ret))))
def lf_laws_eqStringS : LF := { np := 2, N := 26, body := c_laws_eqStringS, res := [.tmp 4] }
theorem low_laws_eqStringS : LowF Tryz.prog Tryz.f21 lf_laws_eqStringS := LowF.mk' (by kernel_rfl) (by kernel_rfl) (by kernel_rfl) (by decide)

/-- laws.szLock -/
def c_laws_szLock : LC :=
  .seq (.ops [⟨some 2, none, .box 121 (.tmp 0)⟩,
    ⟨some 4, none, .mov (.const (.int .i64 0))⟩])
  (.seq (.ops [⟨some 5, none, .mov (.tmp 1)⟩,
    ⟨some 6, none, .fieldAddr 2 (.tmp 2)⟩,
    ⟨some 7, none, .load none (.tmp 6)⟩,
    ⟨some 8, none, .lenStr (.tmp 7)⟩,
    ⟨some 9, none, .bin .sub false (.tmp 5) (.tmp 8)⟩,
    ⟨some 1, none, .mov (.tmp 9)⟩])
  (.seq (.seq (.ops [⟨some 10, none, .mov (.tmp 1)⟩,
     ⟨some 11, none, .bin .lss false (.tmp 10) (.const (.int .i64 0))⟩])
   (.cond (.tmp 11)
    (.seq (.ops [⟨some 4, none, .mov (.const (.int .i64 (-1)))⟩])
     (.ret))
    (.skip)))
  (.seq (.ops [⟨some 12, none, .fieldAddr 3 (.tmp 2)⟩,
    ⟨some 13, none, .load none (.tmp 12)⟩,
    ⟨some 14, none, .mov (.tmp 1)⟩,
    ⟨some 15, none, .call 17 [.tmp 13, .tmp 14]⟩,
    ⟨some 1, none, .mov (.tmp 15)⟩])
  (.seq (.seq (.ops [⟨some 16, none, .mov (.tmp 1)⟩,
     ⟨some 17, none, .bin .lss false (.tmp 16) (.const (.int .i64 0))⟩])
   (.cond (.tmp 17)
    (.seq (.ops [⟨some 4, none, .mov (.const (.int .i64 (-1)))⟩])
     (.ret))
    (.skip)))
  (.seq (.ops [⟨some 18, none, .mov (.tmp 1)⟩,
    ⟨some 4, none, .mov (.tmp 18)⟩])
  (.ret))))))
def lf_laws_szLock : LF := { np := 2, N := 19, body := c_laws_szLock, res := [.tmp 4] }
theorem low_laws_szLock : LowF Tryz.prog Tryz.f94 lf_laws_szLock := LowF.mk' (by kernel_rfl) (by kernel_rfl) (by kernel_rfl) (by decide)

/-- laws.toLock -/
def c_laws_toLock : LC :=
  .seq (.ops [⟨some 1, none, .box 121 (.tmp 0)⟩,
    ⟨some 2, none, .alloc 93 (.agg #[.int .i64 0, .int .i64 0, .string ⟨#[]⟩, .slice none 0 0])⟩])
  (.seq (.ops [⟨some 3, none, .alloc 93 (.agg #[.int .i64 0, .int .i64 0, .string ⟨#[]⟩, .slice none 0 0])⟩])
  (.seq (.ops [⟨some 4, none, .fieldAddr 0 (.tmp 1)⟩,
    ⟨some 5, none, .load none (.tmp 4)⟩,
    ⟨some 6, none, .fieldAddr 0 (.tmp 3)⟩,
    ⟨none, none, .store 1 (.tmp 6) (.tmp 5)⟩])
  (.seq (.ops [⟨some 7, none, .fieldAddr 1 (.tmp 1)⟩,
    ⟨some 8, none, .load none (.tmp 7)⟩,
    ⟨some 9, none, .fieldAddr 1 (.tmp 3)⟩,
    ⟨none, none, .store 1 (.tmp 9) (.tmp 8)⟩])
  (.seq (.ops [⟨some 10, none, .fieldAddr 2 (.tmp 1)⟩,
    ⟨some 11, none, .load none (.tmp 10)⟩,
    ⟨some 12, none, .fieldAddr 2 (.tmp 3)⟩,
    ⟨none, none, .store 1 (.tmp 12) (.tmp 11)⟩])
  (.seq (.ops [⟨some 13, none, .fieldAddr 3 (.tmp 1)⟩,
    ⟨some 14, none, .load none (.tmp 13)⟩,
    ⟨some 15, none, .call 19 [.tmp 14]⟩,
    ⟨some 16, none, .fieldAddr 3 (.tmp 3)⟩,
    ⟨none, none, .store 1 (.tmp 16) (.tmp 15)⟩])
  (.seq (.ops [⟨some 17, none, .load (some 4) (.tmp 3)⟩,
    ⟨none, none, .store 4 (.tmp 2) (.tmp 17)⟩])
  (.ret)))))))
def lf_laws_toLock : LF := { np := 1, N := 18, body := c_laws_toLock, res := [.cell 2 (some 4)] }
theorem low_laws_toLock : LowF Tryz.prog Tryz.f99 lf_laws_toLock := LowF.mk' (by kernel_rfl) (by kernel_rfl) (by kernel_rfl) (by decide)

/-- laws.eqLock -/
def c_laws_eqLock : LC :=
  .seq (.ops [⟨some 2, none, .box 93 (.tmp 0)⟩,
    ⟨some 3, none, .box 93 (.tmp 1)⟩,
    ⟨some 4, none, .mov (.const (.bool false))⟩])
  (.seq (.seq (.ops [⟨some 5, none, .fieldAddr 0 (.tmp 2)⟩,
     ⟨some 6, none, .load none (.tmp 5)⟩,
     ⟨some 7, none, .fieldAddr 0 (.tmp 3)⟩,
     ⟨some 8, none, .load none (.tmp 7)⟩,
     ⟨some 9, none, .bin .neq false (.tmp 6) (.tmp 8)⟩])
   (.cond (.tmp 9)
    (.seq (.ops [⟨some 4, none, .mov (.const (.bool false))⟩])
     (.ret))
    (.skip)))
  (.seq (.seq (.ops [⟨some 10, none, .fieldAddr 1 (.tmp 2)⟩,
     ⟨some 11, none, .load none (.tmp 10)⟩,
     ⟨some 12, none, .fieldAddr 1 (.tmp 3)⟩,
     ⟨some 13, none, .load none (.tmp 12)⟩,
     ⟨some 14, none, .bin .neq false (.tmp 11) (.tmp 13)⟩])
   (.cond (.tmp 14)
    (.seq (.ops [⟨some 4, none, .mov (.const (.bool false))⟩])
     (.ret))
    (.skip)))
  (.seq (.seq (.ops [⟨some 15, none, .fieldAddr 2 (.tmp 2)⟩,
     ⟨some 16, none, .load none (.tmp 15)⟩,
     ⟨some 17, none, .fieldAddr 2 (.tmp 3)⟩,
     ⟨some 18, none, .load none (.tmp 17)⟩,
     ⟨some 19, none, .bin .neq false (.tmp 16) (.tmp 18)⟩])
   (.cond (.tmp 19)
    (.seq (.ops [⟨some 4, none, .mov (.const (.bool false))⟩])
     (.ret))
    (.skip)))
  (.seq (.seq (.ops [⟨some 20, none, .fieldAddr 3 (.tmp 2)⟩,
     ⟨some 21, none, .load none (.tmp 20)⟩,
     ⟨some 22, none, .fieldAddr 3 (.tmp 3)⟩,
     ⟨some 23, none, .load none (.tmp 22)⟩,
     ⟨some 24, none, .call 21 [.tmp 21, .tmp 23]⟩,
     ⟨some 25, none, .un .not (.tmp 24)⟩])
   (.cond (.tmp 25)
    (.seq (.ops [⟨some 4, none, .mov (.const (.bool false))⟩])
     (.ret))
    (.skip)))
  (.seq (.ops [⟨some 4, none, .mov (.const (.bool true))⟩])
  (.ret))))))
def lf_laws_eqLock : LF := { np := 2, N := 26, body := c_laws_eqLock, res := [.tmp 4] }
theorem low_laws_eqLock : LowF Tryz.prog Tryz.f104 lf_laws_eqLock := LowF.mk' (by kernel_rfl) (by kernel_rfl) (by kernel_rfl) (by decide)

/-- laws.szLockS -/
def c_laws_szLockS : LC :=
  .seq (.ops [⟨some 4, none, .mov (.const (.int .i64 0))⟩])
  (.seq (.ops [⟨some 6, none, .mov (.tmp 1)⟩,
    ⟨some 7, none, .mov (.tmp 0)⟩,
    ⟨some 8, none, .lenSl (.tmp 7)⟩,
    ⟨some 9, none, .bin .sub false (.tmp 6) (.tmp 8)⟩,
    ⟨some 1, none, .mov (.tmp 9)⟩])
  (.seq (.seq (.ops [⟨some 10, none, .mov (.tmp 1)⟩,
     ⟨some 11, none, .bin .lss false (.tmp 10) (.const (.int .i64 0))⟩])
   (.cond (.tmp 11)
    (.seq (.ops [⟨some 4, none, .mov (.const (.int .i64 (-1)))⟩])
     (.ret))
    (.skip)))
  (.seq (.seq (.ops [⟨some 5, none, .mov (.const (.int .i64 0))⟩])
   (.block 0 (.loop (.seq (.seq (.ops [⟨some 12, none, .mov (.tmp 5)⟩,
        ⟨some 13, none, .mov (.tmp 0)⟩,
        ⟨some 14, none, .lenSl (.tmp 13)⟩,
        ⟨some 15, none, .bin .lss false (.tmp 12) (.tmp 14)⟩])
      (.cond (.tmp 15)
       (.skip)
       (.exit 0)))
     (.seq (.block 1 (.seq (.ops [⟨some 18, none, .mov (.tmp 0)⟩,
         ⟨some 19, none, .mov (.tmp 5)⟩,
         ⟨some 20, none, .indexAddr 4 (.tmp 18) (.tmp 19)⟩,
         ⟨some 21, none, .load (some 4) (.tmp 20)⟩,
         ⟨some 22, none, .mov (.tmp 1)⟩,
         ⟨some 23, none, .call 94 [.tmp 21, .tmp 22]⟩,
         ⟨some 1, none, .mov (.tmp 23)⟩])
       (.seq (.ops [⟨some 24, none, .mov (.tmp 1)⟩,
         ⟨some 25, none, .bin .lss false (.tmp 24) (.const (.int .i64 0))⟩])
       (.cond (.tmp 25)
        (.seq (.ops [⟨some 4, none, .mov (.const (.int .i64 (-1)))⟩])
         (.ret))
        (.skip)))))
     (.ops [⟨some 16, none, .mov (.tmp 5)⟩,
      ⟨some 17, none, .bin .add false (.tmp 16) (.const (.int .i64 1))⟩,
      ⟨some 5, none, .mov (.tmp 17)⟩]))))))
  (.seq (.ops [⟨some 26, none, .mov (.tmp 1)⟩,
    ⟨some 4, none, .mov (.tmp 26)⟩])
  (.ret)))))
def lf_laws_szLockS : LF := { np := 2, N := 27, body := c_laws_szLockS, res := [.tmp 4] }
theorem low_laws_szLockS : LowF Tryz.prog Tryz.f48 lf_laws_szLockS := LowF.mk' (by kernel_rfl) (by kernel_rfl) (by kernel_rfl) (by decide)

/-- laws.toLockS -/
def c_laws_toLockS : LC :=
  .seq (.ops [⟨some 2, none, .mov (.const (.slice none 0 0))⟩])
  (.seq (.ops [⟨some 5, none, .mov (.tmp 0)⟩,
    ⟨some 6, none, .lenSl (.tmp 5)⟩,
    ⟨some 7, none, .mkSlice 93 4 56 (.agg #[.int .i64 0, .int .i64 0, .string ⟨#[]⟩, .slice none 0 0]) (.tmp 6) (.tmp 6)⟩,
    ⟨some 3, none, .mov (.tmp 7)⟩])
  (.seq (.seq (.ops [⟨some 4, none, .mov (.const (.int .i64 0))⟩])
   (.block 0 (.loop (.seq (.seq (.ops [⟨some 8, none, .mov (.tmp 4)⟩,
        ⟨some 9, none, .mov (.tmp 0)⟩,
        ⟨some 10, none, .lenSl (.tmp 9)⟩,
        ⟨some 11, none, .bin .lss false (.tmp 8) (.tmp 10)⟩])
      (.cond (.tmp 11)
       (.skip)
       (.exit 0)))
     (.seq (.block 1 (.ops [⟨some 14, none, .mov (.tmp 3)⟩,
        ⟨some 15, none, .mov (.tmp 4)⟩,
        ⟨some 16, none, .mov (.tmp 0)⟩,
        ⟨some 17, none, .mov (.tmp 4)⟩,
        ⟨some 18, none, .indexAddr 4 (.tmp 16) (.tmp 17)⟩,
        ⟨some 19, none, .load (some 4) (.tmp 18)⟩,
        ⟨some 20, none, .call 99 [.tmp 19]⟩,
        ⟨some 21, none, .indexAddr 4 (.tmp 14) (.tmp 15)⟩,
        ⟨none, none, .store 4 (.tmp 21) (.tmp 20)⟩]))
     (.ops [⟨some 12, none, .mov (.tmp 4)⟩,
      ⟨some 13, none, .bin .add false (.tmp 12) (.const (.int .i64 1))⟩,
      ⟨some 4, none, .mov (.tmp 13)⟩]))))))
  (.seq (.ops [⟨some 22, none, .mov (.tmp 3)⟩,
    ⟨some 2, none, .mov (.tmp 22)⟩])
  (.ret))))
def lf_laws_toLockS : LF := { np := 1, N := 23, body := c_laws_toLockS, res := [.tmp 2] }
theorem low_laws_toLockS : LowF Tryz.prog Tryz.f51 lf_laws_toLockS := LowF.mk' (by kernel_rfl) (by kernel_rfl) (by kernel_rfl) (by decide)

/-- laws.eqLockS -/
def c_laws_eqLockS : LC :=
  .seq (.ops [⟨some 4, none, .mov (.const (.bool false))⟩])
  (.seq (.seq (.ops [⟨some 6, none, .mov (.tmp 0)⟩,
     ⟨some 7, none, .lenSl (.tmp 6)⟩,
     ⟨some 8, none, .mov (.tmp 1)⟩,
     ⟨some 9, none, .lenSl (.tmp 8)⟩,
     ⟨some 10, none, .bin .neq false (.tmp 7) (.tmp 9)⟩])
   (.cond (.tmp 10)
    (.seq (.ops [⟨some 4, none, .mov (.const (.bool false))⟩])
     (.ret))
    (.skip)))
  (.seq (.seq (.ops [⟨some 5, none, .mov (.const (.int .i64 0))⟩])
   (.block 0 (.loop (.seq (.seq (.ops [⟨some 11, none, .mov (.tmp 5)⟩,
        ⟨some 12, none, .mov (.tmp 0)⟩,
        ⟨some 13, none, .lenSl (.tmp 12)⟩,
        ⟨some 14, none, .bin .lss false (.tmp 11) (.tmp 13)⟩])
      (.cond (.tmp 14)
       (.skip)
       (.exit 0)))
     (.seq (.block 1 (.seq (.dops [⟨some 17, none, .mov (.tmp 0)⟩,
         ⟨some 18, none, .mov (.tmp 5)⟩,
         ⟨some 19, none, .indexAddr 4 (.tmp 17) (.tmp 18)⟩,
         ⟨some 20, none, .load (some 4) (.tmp 19)⟩,
         ⟨some 21, none, .mov (.tmp 1)⟩,
         ⟨some 22, none, .mov (.tmp 5)⟩,
         ⟨some 23, none, .indexAddr 4 (.tmp 21) (.tmp 22)⟩,
         ⟨some 24, none, .load (some 4) (.tmp 23)⟩,
         ⟨some 25, none, .call 104 [.tmp 20, .tmp 24]⟩,
         ⟨some 26, none, .un .not (.tmp 25)⟩])
       (.cond (.tmp 26)
        (.seq (.ops [⟨some 4, none, .mov (.const (.bool false))⟩])
         (.ret))
        (.skip))))
     (.ops [⟨some 15, none, .mov (.tmp 5)⟩,
      ⟨some 16, none, .bin .add false (.tmp 15) (.const (.int .i64 1))⟩,
      ⟨some 5, none, .mov (.tmp 16)⟩]))))))
  (.seq (.ops [⟨some 4, none, .mov (.const (.bool true))⟩])
  (.ret))))
def lf_laws_eqLockS : LF := { np := 2, N := 27, body := c_laws_eqLockS, res := [.tmp 4] }
theorem low_laws_eqLockS : LowF Tryz.prog Tryz.f57 lf_laws_eqLockS := LowF.mk' (by kernel_rfl) (by kernel_rfl) (by kernel_rfl) (by decide)

/-- laws.szAsk -/
def c_laws_szAsk : LC :=
  .seq (.ops [⟨some 2, none, .box 123 (.tmp 0)⟩,
    ⟨some 4, none, .mov (.const (.int .i64 0))⟩])
  (.seq (.ops [⟨some 5, none, .mov (.tmp 1)⟩,
    ⟨some 6, none, .fieldAddr 2 (.tmp 2)⟩,
    ⟨some 7, none, .load none (.tmp 6)⟩,
    ⟨some 8, none, .lenStr (.tmp 7)⟩,
    ⟨some 9, none, .bin .sub false (.tmp 5) (.tmp 8)⟩,
    ⟨some 1, none, .mov (.tmp 9)⟩])
  (.seq (.seq (.ops [⟨some 10, none, .mov (.tmp 1)⟩,
     ⟨some 11, none, .bin .lss false (.tmp 10) (.const (.int .i64 0))⟩])
   (.cond (.tmp 11)
    (.seq (.ops [⟨some 4, none, .mov (.const (.int .i64 (-1)))⟩])
     (.ret))
    (.skip)))
  (.seq (.ops [⟨some 12, none, .fieldAddr 3 (.tmp 2)⟩,
    ⟨some 13, none, .load none (.tmp 12)⟩,
    ⟨some 14, none, .mov (.tmp 1)⟩,
    ⟨some 15, none, .call 17 [.tmp 13, .tmp 14]⟩,
    ⟨some 1, none, .mov (.tmp 15)⟩])
  (.seq (.seq (.ops [⟨some 16, none, .mov (.tmp 1)⟩,
     ⟨some 17, none, .bin .lss false (.tmp 16) (.const (.int .i64 0))⟩])
   (.cond (.tmp 17)
    (.seq (.ops [⟨some 4, none, .mov (.const (.int .i64 (-1)))⟩])
     (.ret))
    (.skip)))
  (.seq (.ops [⟨some 18, none, .mov (.tmp 1)⟩,
    ⟨some 4, none, .mov (.tmp 18)⟩])
  (.ret))))))
def lf_laws_szAsk : LF := { np := 2, N := 19, body := c_laws_szAsk, res := [.tmp 4] }
theorem low_laws_szAsk : LowF Tryz.prog Tryz.f95 lf_laws_szAsk := LowF.mk' (by kernel_rfl) (by kernel_rfl) (by kernel_rfl) (by decide)

/-- laws.toAsk -/
def c_laws_toAsk : LC :=
  .seq (.ops [⟨some 1, none, .box 123 (.tmp 0)⟩,
    ⟨some 2, none, .alloc 84 (.agg #[.int .i64 0, .int .i64 0, .string ⟨#[]⟩, .slice none 0 0])⟩])
  (.seq (.ops [⟨some 3, none, .alloc 84 (.agg #[.int .i64 0, .int .i64 0, .string ⟨#[]⟩, .slice none 0 0])⟩])
  (.seq (.ops [⟨some 4, none, .fieldAddr 0 (.tmp 1)⟩,
    ⟨some 5, none, .load none (.tmp 4)⟩,
    ⟨some 6, none, .fieldAddr 0 (.tmp 3)⟩,
    ⟨none, none, .store 1 (.tmp 6) (.tmp 5)⟩])
  (.seq (.ops [⟨some 7, none, .fieldAddr 1 (.tmp 1)⟩,
    ⟨some 8, none, .load none (.tmp 7)⟩,
    ⟨some 9, none, .fieldAddr 1 (.tmp 3)⟩,
    ⟨none, none, .store 1 (.tmp 9) (.tmp 8)⟩])
  (.seq (.ops [⟨some 10, none, .fieldAddr 2 (.tmp 1)⟩,
    ⟨some 11, none, .load none (.tmp 10)⟩,
    ⟨some 12, none, .fieldAddr 2 (.tmp 3)⟩,
    ⟨none, none, .store 1 (.tmp 12) (.tmp 11)⟩])
  (.seq (.ops [⟨some 13, none, .fieldAddr 3 (.tmp 1)⟩,
    ⟨some 14, none, .load none (.tmp 13)⟩,
    ⟨some 15, none, .call 19 [.tmp 14]⟩,
    ⟨some 16, none, .fieldAddr 3 (.tmp 3)⟩,
    ⟨none, none, .store 1 (.tmp 16) (.tmp 15)⟩])
  (.seq (.ops [⟨some 17, none, .load (some 4) (.tmp 3)⟩,
    ⟨none, none, .store 4 (.tmp 2) (.tmp 17)⟩])
  (.ret)))))))
def lf_laws_toAsk : LF := { np := 1, N := 18, body := c_laws_toAsk, res := [.cell 2 (some 4)] }
theorem low_laws_toAsk : LowF Tryz.prog Tryz.f100 lf_laws_toAsk := LowF.mk' (by kernel_rfl) (by kernel_rfl) (by kernel_rfl) (by decide)

/-- laws.eqAsk -/
def c_laws_eqAsk : LC :=
  .seq (.ops [⟨some 2, none, .box 84 (.tmp 0)⟩,
    ⟨some 3, none, .box 84 (.tmp 1)⟩,
    ⟨some 4, none, .mov (.const (.bool false))⟩])
  (.seq (.seq (.ops [⟨some 5, none, .fieldAddr 0 (.tmp 2)⟩,
     ⟨some 6, none, .load none (.tmp 5)⟩,
     ⟨some 7, none, .fieldAddr 0 (.tmp 3)⟩,
     ⟨some 8, none, .load none (.tmp 7)⟩,
     ⟨some 9, none, .bin .neq false (.tmp 6) (.tmp 8)⟩])
   (.cond (.tmp 9)
    (.seq (.ops [⟨some 4, none, .mov (.const (.bool false))⟩])
     (.ret))
    (.skip)))
  (.seq (.seq (.ops [⟨some 10, none, .fieldAddr 1 (.tmp 2)⟩,
     ⟨some 11, none, .load none (.tmp 10)⟩,
     ⟨some 12, none, .fieldAddr 1 (.tmp 3)⟩,
     ⟨some 13, none, .load none (.tmp 12)⟩,
     ⟨some 14, none, .bin .neq false (.tmp 11) (.tmp 13)⟩])
   (.cond (.tmp 14)
    (.seq (.ops [⟨some 4, none, .mov (.const (.bool false))⟩])
     (.ret))
    (.skip)))
  (.seq (.seq (.ops [⟨some 15, none, .fieldAddr 2 (.tmp 2)⟩,
     ⟨some 16, none, .load none (.tmp 15)⟩,
     ⟨some 17, none, .fieldAddr 2 (.tmp 3)⟩,
     ⟨some 18, none, .load none (.tmp 17)⟩,
     ⟨some 19, none, .bin .neq false (.tmp 16) (.tmp 18)⟩])
   (.cond (.tmp 19)
    (.seq (.ops [⟨some 4, none, .mov (.const (.bool false))⟩])
     (.ret))
    (.skip)))
  (.seq (.seq (.ops [⟨some 20, none, .fieldAddr 3 (.tmp 2)⟩,
     ⟨some 21, none, .load none (.tmp 20)⟩,
     ⟨some 22, none, .fieldAddr 3 (.tmp 3)⟩,
     ⟨some 23, none, .load none (.tmp 22)⟩,
     ⟨some 24, none, .call 21 [.tmp 21, .tmp 23]⟩,
     ⟨some 25, none, .un .not (.tmp 24)⟩])
   (.cond (.tmp 25)
    (.seq (.ops [⟨some 4, none, .mov (.const (.bool false))⟩])
     (.ret))
    (.skip)))
  (.seq (.ops [⟨some 4, none, .mov (.const (.bool true))⟩])
  (.ret))))))
def lf_laws_eqAsk : LF := { np := 2, N := 26, body := c_laws_eqAsk, res := [.tmp 4] }
theorem low_laws_eqAsk : LowF Tryz.prog Tryz.f105 lf_laws_eqAsk := LowF.mk' (by kernel_rfl) (by kernel_rfl) (by kernel_rfl) (by decide)

/-- laws.szAskS -/
def c_laws_szAskS : LC :=
  .seq (.ops [⟨some 4, none, .mov (.const (.int .i64 0))⟩])
  (.seq (.ops [⟨some 6, none, .mov (.tmp 1)⟩,
    ⟨some 7, none, .mov (.tmp 0)⟩,
    ⟨some 8, none, .lenSl (.tmp 7)⟩,
    ⟨some 9, none, .bin .sub false (.tmp 6) (.tmp 8)⟩,
    ⟨some 1, none, .mov (.tmp 9)⟩])
  (.seq (.seq (.ops [⟨some 10, none, .mov (.tmp 1)⟩,
     ⟨some 11, none, .bin .lss false (.tmp 10) (.const (.int .i64 0))⟩])
   (.cond (.tmp 11)
    (.seq (.ops [⟨some 4, none, .mov (.const (.int .i64 (-1)))⟩])
     (.ret))
    (.skip)))
  (.seq (.seq (.ops [⟨some 5, none, .mov (.const (.int .i64 0))⟩])
   (.block 0 (.loop (.seq (.seq (.ops [⟨some 12, none, .mov (.tmp 5)⟩,
        ⟨some 13, none, .mov (.tmp 0)⟩,
        ⟨some 14, none, .lenSl (.tmp 13)⟩,
        ⟨some 15, none, .bin .lss false (.tmp 12) (.tmp 14)⟩])
      (.cond (.tmp 15)
       (.skip)
       (.exit 0)))
     (.seq (.block 1 (.seq (.ops [⟨some 18, none, .mov (.tmp 0)⟩,
         ⟨some 19, none, .mov (.tmp 5)⟩,
         ⟨some 20, none, .indexAddr 4 (.tmp 18) (.tmp 19)⟩,
         ⟨some 21, none, .load (some 4) (.tmp 20)⟩,
         ⟨some 22, none, .mov (.tmp 1)⟩,
         ⟨some 23, none, .call 95 [.tmp 21, .tmp 22]⟩,
         ⟨some 1, none, .mov (.tmp 23)⟩])
       (.seq (.ops [⟨some 24, none, .mov (.tmp 1)⟩,
         ⟨some 25, none, .bin .lss false (.tmp 24) (.const (.int .i64 0))⟩])
       (.cond (.tmp 25)
        (.seq (.ops [⟨some 4, none, .mov (.const (.int .i64 (-1)))⟩])
         (.ret))
        (.skip)))))
     (.ops [⟨some 16, none, .mov (.tmp 5)⟩,
      ⟨some 17, none, .bin .add false (.tmp 16) (.const (.int .i64 1))⟩,
      ⟨some 5, none, .mov (.tmp 17)⟩]))))))
  (.seq (.ops [⟨some 26, none, .mov (.tmp 1)⟩,
    ⟨some 4, none, .mov (.tmp 26)⟩])
  (.ret)))))
def lf_laws_szAskS : LF := { np := 2, N := 27, body := c_laws_szAskS, res := [.tmp 4] }
theorem low_laws_szAskS : LowF Tryz.prog Tryz.f49 lf_laws_szAskS := LowF.mk' (by kernel_rfl) (by kernel_rfl) (by kernel_rfl) (by decide)

/-- laws.toAskS -/
def c_laws_toAskS : LC :=
  .seq (.ops [⟨some 2, none, .mov (.const (.slice none 0 0))⟩])
  (.seq (.ops [⟨some 5, none, .mov (.tmp 0)⟩,
    ⟨some 6, none, .lenSl (.tmp 5)⟩,
    ⟨some 7, none, .mkSlice 84 4 56 (.agg #[.int .i64 0, .int .i64 0, .string ⟨#[]⟩, .slice none 0 0]) (.tmp 6) (.tmp 6)⟩,
    ⟨some 3, none, .mov (.tmp 7)⟩])
  (.seq (.seq (.ops [⟨some 4, none, .mov (.const (.int .i64 0))⟩])
   (.block 0 (.loop (.seq (.seq (.ops [⟨some 8, none, .mov (.tmp 4)⟩,
        ⟨some 9, none, .mov (.tmp 0)⟩,
        ⟨some 10, none, .lenSl (.tmp 9)⟩,
        ⟨some 11, none, .bin .lss false (.tmp 8) (.tmp 10)⟩])
      (.cond (.tmp 11)
       (.skip)
       (.exit 0)))
     (.seq (.block 1 (.ops [⟨some 14, none, .mov (.tmp 3)⟩,
        ⟨some 15, none, .mov (.tmp 4)⟩,
        ⟨some 16, none, .mov (.tmp 0)⟩,
        ⟨some 17, none, .mov (.tmp 4)⟩,
        ⟨some 18, none, .indexAddr 4 (.tmp 16) (.tmp 17)⟩,
        ⟨some 19, none, .load (some 4) (.tmp 18)⟩,
        ⟨some 20, none, .call 100 [.tmp 19]⟩,
        ⟨some 21, none, .indexAddr 4 (.tmp 14) (.tmp 15)⟩,
        ⟨none, none, .store 4 (.tmp 21) (.tmp 20)⟩]))
     (.ops [⟨some 12, none, .mov (.tmp 4)⟩,
      ⟨some 13, none, .bin .add false (.tmp 12) (.const (.int .i64 1))⟩,
      ⟨some 4, none, .mov (.tmp 13)⟩]))))))
  (.seq (.ops [⟨some 22, none, .mov (.tmp 3)⟩,
    ⟨some 2, none, .mov (.tmp 22)⟩])
  (.ret))))
def lf_laws_toAskS : LF := { np := 1, N := 23, body := c_laws_toAskS, res := [.tmp 2] }
theorem low_laws_toAskS : LowF Tryz.prog Tryz.f52 lf_laws_toAskS := LowF.mk' (by kernel_rfl) (by kernel_rfl) (by kernel_rfl) (by decide)

/-- laws.eqAskS -/
def c_laws_eqAskS : LC :=
  .seq (.ops [⟨some 4, none, .mov (.const (.bool false))⟩])
  (.seq (.seq (.ops [⟨some 6, none, .mov (.tmp 0)⟩,
     ⟨some 7, none, .lenSl (.tmp 6)⟩,
     ⟨some 8, none, .mov (.tmp 1)⟩,
     ⟨some 9, none, .lenSl (.tmp 8)⟩,
     ⟨some 10, none, .bin .neq false (.tmp 7) (.tmp 9)⟩])
   (.cond (.tmp 10)
    (.seq (.ops [⟨some 4, none, .mov (.const (.bool false))⟩])
     (.ret))
    (.skip)))
  (.seq (.seq (.ops [⟨some 5, none, .mov (.const (.int .i64 0))⟩])
   (.block 0 (.loop (.seq (.seq (.ops [⟨some 11, none, .mov (.tmp 5)⟩,
        ⟨some 12, none, .mov (.tmp 0)⟩,
        ⟨some 13, none, .lenSl (.tmp 12)⟩,
        ⟨some 14, none, .bin .lss false (.tmp 11) (.tmp 13)⟩])
      (.cond (.tmp 14)
       (.skip)
       (.exit 0)))
     (.seq (.block 1 (.seq (.dops [⟨some 17, none, .mov (.tmp 0)⟩,
         ⟨some 18, none, .mov (.tmp 5)⟩,
         ⟨some 19, none, .indexAddr 4 (.tmp 17) (.tmp 18)⟩,
         ⟨some 20, none, .load (some 4) (.tmp 19)⟩,
         ⟨some 21, none, .mov (.tmp 1)⟩,
         ⟨some 22, none, .mov (.tmp 5)⟩,
         ⟨some 23, none, .indexAddr 4 (.tmp 21) (.tmp 22)⟩,
         ⟨some 24, none, .load (some 4) (.tmp 23)⟩,
         ⟨some 25, none, .call 105 [.tmp 20, .tmp 24]⟩,
         ⟨some 26, none, .un .not (.tmp 25)⟩])
       (.cond (.tmp 26)
        (.seq (.ops [⟨some 4, none, .mov (.const (.bool false))⟩])
         (.ret))
        (.skip))))
     (.ops [⟨some 15, none, .mov (.tmp 5)⟩,
      ⟨some 16, none, .bin .add false (.tmp 15) (.const (.int .i64 1))⟩,
      ⟨some 5, none, .mov (.tmp 16)⟩]))))))
  (.seq (.ops [⟨some 4, none, .mov (.const (.bool true))⟩])
  (.ret))))
def lf_laws_eqAskS : LF := { np := 2, N := 27, body := c_laws_eqAskS, res := [.tmp 4] }
theorem low_laws_eqAskS : LowF Tryz.prog Tryz.f58 lf_laws_eqAskS := LowF.mk' (by kernel_rfl) (by kernel_rfl) (by kernel_rfl) (by decide)

/-- laws.szLocks -/
def c_laws_szLocks : LC :=
  .seq (.ops [⟨some 2, none, .box 25 (.tmp 0)⟩,
    ⟨some 4, none, .mov (.const (.int .i64 0))⟩])
  (.seq (.ops [⟨some 5, none, .fieldAddr 0 (.tmp 2)⟩,
    ⟨some 6, none, .load none (.tmp 5)⟩,
    ⟨some 7, none, .mov (.tmp 1)⟩,
    ⟨some 8, none, .call 48 [.tmp 6, .tmp 7]⟩,
    ⟨some 1, none, .mov (.tmp 8)⟩])
  (.seq (.seq (.ops [⟨some 9, none, .mov (.tmp 1)⟩,
     ⟨some 10, none, .bin .lss false (.tmp 9) (.const (.int .i64 0))⟩])
   (.cond (.tmp 10)
    (.seq (.ops [⟨some 4, none, .mov (.const (.int .i64 (-1)))⟩])
     (.ret))
    (.skip)))
  (.seq (.ops [⟨some 11, none, .fieldAddr 1 (.tmp 2)⟩,
    ⟨some 12, none, .load none (.tmp 11)⟩,
    ⟨some 13, none, .mov (.tmp 1)⟩,
    ⟨some 14, none, .call 49 [.tmp 12, .tmp 13]⟩,
    ⟨some 1, none, .mov (.tmp 14)⟩])
  (.seq (.seq (.ops [⟨some 15, none, .mov (.tmp 1)⟩,
     ⟨some 16, none, .bin .lss false (.tmp 15) (.const (.int .i64 0))⟩])
   (.cond (.tmp 16)
    (.seq (.ops [⟨some 4, none, .mov (.const (.int .i64 (-1)))⟩])
     (.ret))
    (.skip)))
  (.seq (.ops [⟨some 17, none, .mov (.tmp 1)⟩,
    ⟨some 4, none, .mov (.tmp 17)⟩])
  (.ret))))))
def lf_laws_szLocks : LF := { np := 2, N := 18, body := c_laws_szLocks, res := [.tmp 4] }
theorem low_laws_szLocks : LowF Tryz.prog Tryz.f12 lf_laws_szLocks := LowF.mk' (by kernel_rfl) (by kernel_rfl) (by kernel_rfl) (by decide)

/-- laws.toLocks -/
def c_laws_toLocks : LC :=
  .seq (.ops [⟨some 1, none, .box 25 (.tmp 0)⟩,
    ⟨some 2, none, .alloc 31 (.agg #[.slice none 0 0, .slice none 0 0])⟩])
  (.seq (.ops [⟨some 3, none, .alloc 31 (.agg #[.slice none 0 0, .slice none 0 0])⟩])
  (.seq (.ops [⟨some 4, none, .fieldAddr 0 (.tmp 1)⟩,
    ⟨some 5, none, .load none (.tmp 4)⟩,
    ⟨some 6, none, .call 51 [.tmp 5]⟩,
    ⟨some 7, none, .fieldAddr 0 (.tmp 3)⟩,
    ⟨none, none, .store 1 (.tmp 7) (.tmp 6)⟩])
  (.seq (.ops [⟨some 8, none, .fieldAddr 1 (.tmp 1)⟩,
    ⟨some 9, none, .load none (.tmp 8)⟩,
    ⟨some 10, none, .call 52 [.tmp 9]⟩,
    ⟨some 11, none, .fieldAddr 1 (.tmp 3)⟩,
    ⟨none, none, .store 1 (.tmp 11) (.tmp 10)⟩])
  (.seq (.ops [⟨some 12, none, .load (some 2) (.tmp 3)⟩,
    ⟨none, none, .store 2 (.tmp 2) (.tmp 12)⟩])
  (.ret)))))
def lf_laws_toLocks : LF := { np := 1, N := 13, body := c_laws_toLocks, res := [.cell 2 (some 2)] }
theorem low_laws_toLocks : LowF Tryz.prog Tryz.f14 lf_laws_toLocks := LowF.mk' (by kernel_rfl) (by kernel_rfl) (by kernel_rfl) (by decide)

/-- laws.eqLocks -/
def c_laws_eqLocks : LC :=
  .seq (.ops [⟨some 2, none, .box 31 (.tmp 0)⟩,
    ⟨some 3, none, .box 31 (.tmp 1)⟩,
    ⟨some 4, none, .mov (.const (.bool false))⟩])
  (.seq (.seq (.ops [⟨some 5, none, .fieldAddr 0 (.tmp 2)⟩,
     ⟨some 6, none, .load none (.tmp 5)⟩,
     ⟨some 7, none, .fieldAddr 0 (.tmp 3)⟩,
     ⟨some 8, none, .load none (.tmp 7)⟩,
     ⟨some 9, none, .call 57 [.tmp 6, .tmp 8]⟩,
     ⟨some 10, none, .un .not (.tmp 9)⟩])
   (.cond (.tmp 10)
    (.seq (.ops [⟨some 4, none, .mov (.const (.bool false))⟩])
     (.ret))
    (.skip)))
  (.seq (.seq (.ops [⟨some 11, none, .fieldAddr 1 (.tmp 2)⟩,
     ⟨some 12, none, .load none (.tmp 11)⟩,
     ⟨some 13, none, .fieldAddr 1 (.tmp 3)⟩,
     ⟨some 14, none, .load none (.tmp 13)⟩,
     ⟨some 15, none, .call 58 [.tmp 12, .tmp 14]⟩,
     ⟨some 16, none, .un .not (.tmp 15)⟩])
   (.cond (.tmp 16)
    (.seq (.ops [⟨some 4, none, .mov (.const (.bool false))⟩])
     (.ret))
    (.skip)))
  (.seq (.ops [⟨some 4, none, .mov (.const (.bool true))⟩])
  (.ret))))
def lf_laws_eqLocks : LF := { np := 2, N := 17, body := c_laws_eqLocks, res := [.tmp 4] }
theorem low_laws_eqLocks : LowF Tryz.prog Tryz.f16 lf_laws_eqLocks := LowF.mk' (by kernel_rfl) (by kernel_rfl) (by kernel_rfl) (by decide)

/-- laws.szEvent -/
def c_laws_szEvent : LC :=
  .seq (.ops [⟨some 2, none, .box 43 (.tmp 0)⟩,
    ⟨some 4, none, .mov (.const (.int .i64 0))⟩])
  (.seq (.ops [⟨some 5, none, .mov (.tmp 1)⟩,
    ⟨some 6, none, .fieldAddr 1 (.tmp 2)⟩,
    ⟨some 7, none, .load none (.tmp 6)⟩,
    ⟨some 8, none, .lenStr (.tmp 7)⟩,
    ⟨some 9, none, .bin .sub false (.tmp 5) (.tmp 8)⟩,
    ⟨some 1, none, .mov (.tmp 9)⟩])
  (.seq (.seq (.ops [⟨some 10, none, .mov (.tmp 1)⟩,
     ⟨some 11, none, .bin .lss false (.tmp 10) (.const (.int .i64 0))⟩])
   (.cond (.tmp 11)
    (.seq (.ops [⟨some 4, none, .mov (.const (.int .i64 (-1)))⟩])
     (.ret))
    (.skip)))
  (.seq (.ops [⟨some 12, none, .fieldAddr 2 (.tmp 2)⟩,
    ⟨some 13, none, .load none (.tmp 12)⟩,
    ⟨some 14, none, .mov (.tmp 1)⟩,
    ⟨some 15, none, .call 17 [.tmp 13, .tmp 14]⟩,
    ⟨some 1, none, .mov (.tmp 15)⟩])
  (.seq (.seq (.ops [⟨some 16, none, .mov (.tmp 1)⟩,
     ⟨some 17, none, .bin .lss false (.tmp 16) (.const (.int .i64 0))⟩])
   (.cond (.tmp 17)
    (.seq (.ops [⟨some 4, none, .mov (.const (.int .i64 (-1)))⟩])
     (.ret))
    (.skip)))
  (.seq (.ops [⟨some 18, none, .mov (.tmp 1)⟩,
    ⟨some 19, none, .fieldAddr 3 (.tmp 2)⟩,
    ⟨some 20, none, .load none (.tmp 19)⟩,
    ⟨some 21, none, .lenStr (.tmp 20)⟩,
    ⟨some 22, none, .bin .sub false (.tmp 18) (.tmp 21)⟩,
    ⟨some 1, none, .mov (.tmp 22)⟩])
  (.seq (.seq (.ops [⟨some 23, none, .mov (.tmp 1)⟩,
     ⟨some 24, none, .bin .lss false (.tmp 23) (.const (.int .i64 0))⟩])
   (.cond (.tmp 24)
    (.seq (.ops [⟨some 4, none, .mov (.const (.int .i64 (-1)))⟩])
     (.ret))
    (.skip)))
  (.seq (.ops [⟨some 25, none, .mov (.tmp 1)⟩,
    ⟨some 4, none, .mov (.tmp 25)⟩])
  (.ret))))))))
def lf_laws_szEvent : LF := { np := 2, N := 26, body := c_laws_szEvent, res := [.tmp 4] }
theorem low_laws_szEvent : LowF Tryz.prog Tryz.f26 lf_laws_szEvent := LowF.mk' (by kernel_rfl) (by kernel_rfl) (by kernel_rfl) (by decide)

/-- laws.toEvent -/
def c_laws_toEvent : LC :=
  .seq (.ops [⟨some 1, none, .box 43 (.tmp 0)⟩,
    ⟨some 2, none, .alloc 46 (.agg #[.int .i64 0, .string ⟨#[]⟩, .slice none 0 0, .string ⟨#[]⟩, .int .i64 0])⟩])
  (.seq (.ops [⟨some 3, none, .alloc 46 (.agg #[.int .i64 0, .string ⟨#[]⟩, .slice none 0 0, .string ⟨#[]⟩, .int .i64 0])⟩])
  (.seq (.ops [⟨some 4, none, .fieldAddr 0 (.tmp 1)⟩,
    ⟨some 5, none, .load none (.tmp 4)⟩,
    ⟨some 6, none, .fieldAddr 0 (.tmp 3)⟩,
    ⟨none, none, .store 1 (.tmp 6) (.tmp 5)⟩])
  (.seq (.ops [⟨some 7, none, .fieldAddr 1 (.tmp 1)⟩,
    ⟨some 8, none, .load none (.tmp 7)⟩,
    ⟨some 9, none, .fieldAddr 1 (.tmp 3)⟩,
    ⟨none, none, .store 1 (.tmp 9) (.tmp 8)⟩])
  (.seq (.ops [⟨some 10, none, .fieldAddr 2 (.tmp 1)⟩,
    ⟨some 11, none, .load none (.tmp 10)⟩,
    ⟨some 12, none, .call 19 [.tmp 11]⟩,
    ⟨some 13, none, .fieldAddr 2 (.tmp 3)⟩,
    ⟨none, none, .store 1 (.tmp 13) (.tmp 12)⟩])
  (.seq (.ops [⟨some 14, none, .fieldAddr 3 (.tmp 1)⟩,
    ⟨some 15, none, .load none (.tmp 14)⟩,
    ⟨some 16, none, .fieldAddr 3 (.tmp 3)⟩,
    ⟨none, none, .store 1 (.tmp 16) (.tmp 15)⟩])
  (.seq (.ops [⟨some 17, none, .fieldAddr 4 (.tmp 1)⟩,
    ⟨some 18, none, .load none (.tmp 17)⟩,
    ⟨some 19, none, .fieldAddr 4 (.tmp 3)⟩,
    ⟨none, none, .store 1 (.tmp 19) (.tmp 18)⟩])
  (.seq (.ops [⟨some 20, none, .load (some 5) (.tmp 3)⟩,
    ⟨none, none, .store 5 (.tmp 2) (.tmp 20)⟩])
  (.ret))))))))
def lf_laws_toEvent : LF := { np := 1, N := 21, body := c_laws_toEvent, res := [.cell 2 (some 5)] }
theorem low_laws_toEvent : LowF Tryz.prog Tryz.f28 lf_laws_toEvent := LowF.mk' (by kernel_rfl) (by kernel_rfl) (by kernel_rfl) (by decide)

/-- laws.eqEvent -/
def c_laws_eqEvent : LC :=
  .seq (.ops [⟨some 2, none, .box 46 (.tmp 0)⟩,
    ⟨some 3, none, .box 46 (.tmp 1)⟩,
    ⟨some 4, none, .mov (.const (.bool false))⟩])
  (.seq (.seq (.ops [⟨some 5, none, .fieldAddr 0 (.tmp 2)⟩,
     ⟨some 6, none, .load none (.tmp 5)⟩,
     ⟨some 7, none, .fieldAddr 0 (.tmp 3)⟩,
     ⟨some 8, none, .load none (.tmp 7)⟩,
     ⟨some 9, none, .bin .neq false (.tmp 6) (.tmp 8)⟩])
   (.cond (.tmp 9)
    (.seq (.ops [⟨some 4, none, .mov (.const (.bool false))⟩])
     (.ret))
    (.skip)))
  (.seq (.seq (.ops [⟨some 10, none, .fieldAddr 1 (.tmp 2)⟩,
     ⟨some 11, none, .load none (.tmp 10)⟩,
     ⟨some 12, none, .fieldAddr 1 (.tmp 3)⟩,
     ⟨some 13, none, .load none (.tmp 12)⟩,
     ⟨some 14, none, .bin .neq false (.tmp 11) (.tmp 13)⟩])
   (.cond (.tmp 14)
    (.seq (.ops [⟨some 4, none, .mov (.const (.bool false))⟩])
     (.ret))
    (.skip)))
  (.seq (.seq (.ops [⟨some 15, none, .fieldAddr 2 (.tmp 2)⟩,
     ⟨some 16, none, .load none (.tmp 15)⟩,
     ⟨some 17, none, .fieldAddr 2 (.tmp 3)⟩,
     ⟨some 18, none, .load none (.tmp 17)⟩,
     ⟨some 19, none, .call 21 [.tmp 16, .tmp 18]⟩,
     ⟨some 20, none, .un .not (.tmp 19)⟩])
   (.cond (.tmp 20)
    (.seq (.ops [⟨some 4, none, .mov (.const (.bool false))⟩])
     (.ret))
    (.skip)))
  (.seq (.seq (.ops [⟨some 21, none, .fieldAddr 3 (.tmp 2)⟩,
     ⟨some 22, none, .load none (.tmp 21)⟩,
     ⟨some 23, none, .fieldAddr 3 (.tmp 3)⟩,
     ⟨some 24, none, .load none (.tmp 23)⟩,
     ⟨some 25, none, .bin .neq false (.tmp 22) (.tmp 24)⟩])
   (.cond (.tmp 25)
    (.seq (.ops [⟨some 4, none, .mov (.const (.bool false))⟩])
     (.ret))
    (.skip)))
  (.seq (.seq (.ops [⟨some 26, none, .fieldAddr 4 (.tmp 2)⟩,
     ⟨some 27, none, .load none (.tmp 26)⟩,
     ⟨some 28, none, .fieldAddr 4 (.tmp 3)⟩,
     ⟨some 29, none, .load none (.tmp 28)⟩,
     ⟨some 30, none, .bin .neq false (.tmp 27) (.tmp 29)⟩])
   (.cond (.tmp 30)
    (.seq (.ops [⟨some 4, none, .mov (.const (.bool false))⟩])
     (.ret))
    (.skip)))
  (.seq (.ops [⟨some 4, none, .mov (.const (.bool true))⟩])
  (.ret)))))))
def lf_laws_eqEvent : LF := { np := 2, N := 31, body := c_laws_eqEvent, res := [.tmp 4] }
theorem low_laws_eqEvent : LowF Tryz.prog Tryz.f30 lf_laws_eqEvent := LowF.mk' (by kernel_rfl) (by kernel_rfl) (by kernel_rfl) (by decide)

/-- laws.szDoing -/
def c_laws_szDoing : LC :=
  .seq (.ops [⟨some 2, none, .box 109 (.tmp 0)⟩,
    ⟨some 4, none, .mov (.const (.int .i64 0))⟩])
  (.seq (.ops [⟨some 5, none, .fieldAddr 1 (.tmp 2)⟩,
    ⟨some 6, none, .load (some 5) (.tmp 5)⟩,
    ⟨some 7, none, .mov (.tmp 1)⟩,
    ⟨some 8, none, .call 26 [.tmp 6, .tmp 7]⟩,
    ⟨some 1, none, .mov (.tmp 8)⟩])
  (.seq (.seq (.ops [⟨some 9, none, .mov (.tmp 1)⟩,
     ⟨some 10, none, .bin .lss false (.tmp 9) (.const (.int .i64 0))⟩])
   (.cond (.tmp 10)
    (.seq (.ops [⟨some 4, none, .mov (.const (.int .i64 (-1)))⟩])
     (.ret))
    (.skip)))
  (.seq (.ops [⟨some 11, none, .mov (.tmp 1)⟩,
    ⟨some 4, none, .mov (.tmp 11)⟩])
  (.ret))))
def lf_laws_szDoing : LF := { np := 2, N := 12, body := c_laws_szDoing, res := [.tmp 4] }
theorem low_laws_szDoing : LowF Tryz.prog Tryz.f83 lf_laws_szDoing := LowF.mk' (by kernel_rfl) (by kernel_rfl) (by kernel_rfl) (by decide)

/-- laws.toDoing -/
def c_laws_toDoing : LC :=
  .seq (.ops [⟨some 1, none, .box 109 (.tmp 0)⟩,
    ⟨some 2, none, .alloc 111 (.agg #[.int .i64 0, .int .i64 0, .string ⟨#[]⟩, .slice none 0 0, .string ⟨#[]⟩, .int .i64 0])⟩])
  (.seq (.ops [⟨some 3, none, .alloc 111 (.agg #[.int .i64 0, .int .i64 0, .string ⟨#[]⟩, .slice none 0 0, .string ⟨#[]⟩, .int .i64 0])⟩])
  (.seq (.ops [⟨some 4, none, .fieldAddr 0 (.tmp 1)⟩,
    ⟨some 5, none, .load none (.tmp 4)⟩,
    ⟨some 6, none, .fieldAddr 0 (.tmp 3)⟩,
    ⟨none, none, .store 1 (.tmp 6) (.tmp 5)⟩])
  (.seq (.ops [⟨some 7, none, .fieldAddr 1 (.tmp 1)⟩,
    ⟨some 8, none, .load (some 5) (.tmp 7)⟩,
    ⟨some 9, none, .call 28 [.tmp 8]⟩,
    ⟨some 10, none, .fieldAddr 1 (.tmp 3)⟩,
    ⟨none, none, .store 5 (.tmp 10) (.tmp 9)⟩])
  (.seq (.ops [⟨some 11, none, .load (some 6) (.tmp 3)⟩,
    ⟨none, none, .store 6 (.tmp 2) (.tmp 11)⟩])
  (.ret)))))
def lf_laws_toDoing : LF := { np := 1, N := 12, body := c_laws_toDoing, res := [.cell 2 (some 6)] }
theorem low_laws_toDoing : LowF Tryz.prog Tryz.f84 lf_laws_toDoing := LowF.mk' (by kernel_rfl) (by kernel_rfl) (by kernel_rfl) (by decide)

/-- laws.eqDoing -/
def c_laws_eqDoing : LC :=
  .seq (.ops [⟨some 2, none, .box 111 (.tmp 0)⟩,
    ⟨some 3, none, .box 111 (.tmp 1)⟩,
    ⟨some 4, none, .mov (.const (.bool false))⟩])
  (.seq (.seq (.ops [⟨some 5, none, .fieldAddr 0 (.tmp 2)⟩,
     ⟨some 6, none, .load none (.tmp 5)⟩,
     ⟨some 7, none, .fieldAddr 0 (.tmp 3)⟩,
     ⟨some 8, none, .load none (.tmp 7)⟩,
     ⟨some 9, none, .bin .neq false (.tmp 6) (.tmp 8)⟩])
   (.cond (.tmp 9)
    (.seq (.ops [⟨some 4, none, .mov (.const (.bool false))⟩])
     (.ret))
    (.skip)))
  (.seq (.seq (.ops [⟨some 10, none, .fieldAddr 1 (.tmp 2)⟩,
     ⟨some 11, none, .load (some 5) (.tmp 10)⟩,
     ⟨some 12, none, .fieldAddr 1 (.tmp 3)⟩,
     ⟨some 13, none, .load (some 5) (.tmp 12)⟩,
     ⟨some 14, none, .call 30 [.tmp 11, .tmp 13]⟩,
     ⟨some 15, none, .un .not (.tmp 14)⟩])
   (.cond (.tmp 15)
    (.seq (.ops [⟨some 4, none, .mov (.const (.bool false))⟩])
     (.ret))
    (.skip)))
  (.seq (.ops [⟨some 4, none, .mov (.const (.bool true))⟩])
  (.ret))))
def lf_laws_eqDoing : LF := { np := 2, N := 16, body := c_laws_eqDoing, res := [.tmp 4] }
theorem low_laws_eqDoing : LowF Tryz.prog Tryz.f87 lf_laws_eqDoing := LowF.mk' (by kernel_rfl) (by kernel_rfl) (by kernel_rfl) (by decide)

/-- laws.szDoingS -/
def c_laws_szDoingS : LC :=
  .seq (.ops [⟨some 4, none, .mov (.const (.int .i64 0))⟩])
  (.seq (.ops [⟨some 6, none, .mov (.tmp 1)⟩,
    ⟨some 7, none, .mov (.tmp 0)⟩,
    ⟨some 8, none, .lenSl (.tmp 7)⟩,
    ⟨some 9, none, .bin .sub false (.tmp 6) (.tmp 8)⟩,
    ⟨some 1, none, .mov (.tmp 9)⟩])
  (.seq (.seq (.ops [⟨some 10, none, .mov (.tmp 1)⟩,
     ⟨some 11, none, .bin .lss false (.tmp 10) (.const (.int .i64 0))⟩])
   (.cond (.tmp 11)
    (.seq (.ops [⟨some 4, none, .mov (.const (.int .i64 (-1)))⟩])
     (.ret))
    (.skip)))
  (.seq (.seq (.ops [⟨some 5, none, .mov (.const (.int .i64 0))⟩])
   (.block 0 (.loop (.seq (.seq (.ops [⟨some 12, none, .mov (.tmp 5)⟩,
        ⟨some 13, none, .mov (.tmp 0)⟩,
        ⟨some 14, none, .lenSl (.tmp 13)⟩,
        ⟨some 15, none, .bin .lss false (.tmp 12) (.tmp 14)⟩])
      (.cond (.tmp 15)
       (.skip)
       (.exit 0)))
     (.seq (.block 1 (.seq (.ops [⟨some 18, none, .mov (.tmp 0)⟩,
         ⟨some 19, none, .mov (.tmp 5)⟩,
         ⟨some 20, none, .indexAddr 6 (.tmp 18) (.tmp 19)⟩,
         ⟨some 21, none, .load (some 6) (.tmp 20)⟩,
         ⟨some 22, none, .mov (.tmp 1)⟩,
         ⟨some 23, none, .call 83 [.tmp 21, .tmp 22]⟩,
         ⟨some 1, none, .mov (.tmp 23)⟩])
       (.seq (.ops [⟨some 24, none, .mov (.tmp 1)⟩,
         ⟨some 25, none, .bin .lss false (.tmp 24) (.const (.int .i64 0))⟩])
       (.cond (.tmp 25)
        (.seq (.ops [⟨some 4, none, .mov (.const (.int .i64 (-1)))⟩])
         (.ret))
        (.skip)))))
     (.ops [⟨some 16, none, .mov (.tmp 5)⟩,
      ⟨some 17, none, .bin .add false (.tmp 16) (.const (.int .i64 1))⟩,
      ⟨some 5, none, .mov (.tmp 17)⟩]))))))
  (.seq (.ops [⟨some 26, none, .mov (.tmp 1)⟩,
    ⟨some 4, none, .mov (.tmp 26)⟩])
  (.ret)))))
def lf_laws_szDoingS : LF := { np := 2, N := 27, body := c_laws_szDoingS, res := [.tmp 4] }
theorem low_laws_szDoingS : LowF Tryz.prog Tryz.f33 lf_laws_szDoingS := LowF.mk' (by kernel_rfl) (by kernel_rfl) (by kernel_rfl) (by decide)

/-- laws.toDoingS -/
def c_laws_toDoingS : LC :=
  .seq (.ops [⟨some 2, none, .mov (.const (.slice none 0 0))⟩])
  (.seq (.ops [⟨some 5, none, .mov (.tmp 0)⟩,
    ⟨some 6, none, .lenSl (.tmp 5)⟩,
    ⟨some 7, none, .mkSlice 111 6 80 (.agg #[.int .i64 0, .int .i64 0, .string ⟨#[]⟩, .slice none 0 0, .string ⟨#[]⟩, .int .i64 0]) (.tmp 6) (.tmp 6)⟩,
    ⟨some 3, none, .mov (.tmp 7)⟩])
  (.seq (.seq (.ops [⟨some 4, none, .mov (.const (.int .i64 0))⟩])
   (.block 0 (.loop (.seq (.seq (.ops [⟨some 8, none, .mov (.tmp 4)⟩,
        ⟨some 9, none, .mov (.tmp 0)⟩,
        ⟨some 10, none, .lenSl (.tmp 9)⟩,
        ⟨some 11, none, .bin .lss false (.tmp 8) (.tmp 10)⟩])
      (.cond (.tmp 11)
       (.skip)
       (.exit 0)))
     (.seq (.block 1 (.ops [⟨some 14, none, .mov (.tmp 3)⟩,
        ⟨some 15, none, .mov (.tmp 4)⟩,
        ⟨some 16, none, .mov (.tmp 0)⟩,
        ⟨some 17, none, .mov (.tmp 4)⟩,
        ⟨some 18, none, .indexAddr 6 (.tmp 16) (.tmp 17)⟩,
        ⟨some 19, none, .load (some 6) (.tmp 18)⟩,
        ⟨some 20, none, .call 84 [.tmp 19]⟩,
        ⟨some 21, none, .indexAddr 6 (.tmp 14) (.tmp 15)⟩,
        ⟨none, none, .store 6 (.tmp 21) (.tmp 20)⟩]))
     (.ops [⟨some 12, none, .mov (.tmp 4)⟩,
      ⟨some 13, none, .bin .add false (.tmp 12) (.const (.int .i64 1))⟩,
      ⟨some 4, none, .mov (.tmp 13)⟩]))))))
  (.seq (.ops [⟨some 22, none, .mov (.tmp 3)⟩,
    ⟨some 2, none, .mov (.tmp 22)⟩])
  (.ret))))
def lf_laws_toDoingS : LF := { np := 1, N := 23, body := c_laws_toDoingS, res := [.tmp 2] }
theorem low_laws_toDoingS : LowF Tryz.prog Tryz.f35 lf_laws_toDoingS := LowF.mk' (by kernel_rfl) (by kernel_rfl) (by kernel_rfl) (by decide)

/-- laws.eqDoingS -/
def c_laws_eqDoingS : LC :=
  .seq (.ops [⟨some 4, none, .mov (.const (.bool false))⟩])
  (.seq (.seq (.ops [⟨some 6, none, .mov (.tmp 0)⟩,
     ⟨some 7, none, .lenSl (.tmp 6)⟩,
     ⟨some 8, none, .mov (.tmp 1)⟩,
     ⟨some 9, none, .lenSl (.tmp 8)⟩,
     ⟨some 10, none, .bin .neq false (.tmp 7) (.tmp 9)⟩])
   (.cond (.tmp 10)
    (.seq (.ops [⟨some 4, none, .mov (.const (.bool false))⟩])
     (.ret))
    (.skip)))
  (.seq (.seq (.ops [⟨some 5, none, .mov (.const (.int .i64 0))⟩])
   (.block 0 (.loop (.seq (.seq (.ops [⟨some 11, none, .mov (.tmp 5)⟩,
        ⟨some 12, none, .mov (.tmp 0)⟩,
        ⟨some 13, none, .lenSl (.tmp 12)⟩,
        ⟨some 14, none, .bin .lss false (.tmp 11) (.tmp 13)⟩])
      (.cond (.tmp 14)
       (.skip)
       (.exit 0)))
     (.seq (.block 1 (.seq (.dops [⟨some 17, none, .mov (.tmp 0)⟩,
         ⟨some 18, none, .mov (.tmp 5)⟩,
         ⟨some 19, none, .indexAddr 6 (.tmp 17) (.tmp 18)⟩,
         ⟨some 20, none, .load (some 6) (.tmp 19)⟩,
         ⟨some 21, none, .mov (.tmp 1)⟩,
         ⟨some 22, none, .mov (.tmp 5)⟩,
         ⟨some 23, none, .indexAddr 6 (.tmp 21) (.tmp 22)⟩,
         ⟨some 24, none, .load (some 6) (.tmp 23)⟩,
         ⟨some 25, none, .call 87 [.tmp 20, .tmp 24]⟩,
         ⟨some 26, none, .un .not (.tmp 25)⟩])
       (.cond (.tmp 26)
        (.seq (.ops [⟨some 4, none, .mov (.const (.bool false))⟩])
         (.ret))
        (.skip))))
     (.ops [⟨some 15, none, .mov (.tmp 5)⟩,
      ⟨some 16, none, .bin .add false (.tmp 15) (.const (.int .i64 1))⟩,
      ⟨some 5, none, .mov (.tmp 16)⟩]))))))
  (.seq (.ops [⟨some 4, none, .mov (.const (.bool true))⟩])
  (.ret))))
def lf_laws_eqDoingS : LF := { np := 2, N := 27, body := c_laws_eqDoingS, res := [.tmp 4] }
theorem low_laws_eqDoingS : LowF Tryz.prog Tryz.f37 lf_laws_eqDoingS := LowF.mk' (by kernel_rfl) (by kernel_rfl) (by kernel_rfl) (by decide)

/-- laws.szEventS -/
def c_laws_szEventS : LC :=
  .seq (.ops [⟨some 4, none, .mov (.const (.int .i64 0))⟩])
  (.seq (.ops [⟨some 6, none, .mov (.tmp 1)⟩,
    ⟨some 7, none, .mov (.tmp 0)⟩,
    ⟨some 8, none, .lenSl (.tmp 7)⟩,
    ⟨some 9, none, .bin .sub false (.tmp 6) (.tmp 8)⟩,
    ⟨some 1, none, .mov (.tmp 9)⟩])
  (.seq (.seq (.ops [⟨some 10, none, .mov (.tmp 1)⟩,
     ⟨some 11, none, .bin .lss false (.tmp 10) (.const (.int .i64 0))⟩])
   (.cond (.tmp 11)
    (.seq (.ops [⟨some 4, none, .mov (.const (.int .i64 (-1)))⟩])
     (.ret))
    (.skip)))
  (.seq (.seq (.ops [⟨some 5, none, .mov (.const (.int .i64 0))⟩])
   (.block 0 (.loop (.seq (.seq (.ops [⟨some 12, none, .mov (.tmp 5)⟩,
        ⟨some 13, none, .mov (.tmp 0)⟩,
        ⟨some 14, none, .lenSl (.tmp 13)⟩,
        ⟨some 15, none, .bin .lss false (.tmp 12) (.tmp 14)⟩])
      (.cond (.tmp 15)
       (.skip)
       (.exit 0)))
     (.seq (.block 1 (.seq (.ops [⟨some 18, none, .mov (.tmp 0)⟩,
         ⟨some 19, none, .mov (.tmp 5)⟩,
         ⟨some 20, none, .indexAddr 5 (.tmp 18) (.tmp 19)⟩,
         ⟨some 21, none, .load (some 5) (.tmp 20)⟩,
         ⟨some 22, none, .mov (.tmp 1)⟩,
         ⟨some 23, none, .call 26 [.tmp 21, .tmp 22]⟩,
         ⟨some 1, none, .mov (.tmp 23)⟩])
       (.seq (.ops [⟨some 24, none, .mov (.tmp 1)⟩,
         ⟨some 25, none, .bin .lss false (.tmp 24) (.const (.int .i64 0))⟩])
       (.cond (.tmp 25)
        (.seq (.ops [⟨some 4, none, .mov (.const (.int .i64 (-1)))⟩])
         (.ret))
        (.skip)))))
     (.ops [⟨some 16, none, .mov (.tmp 5)⟩,
      ⟨some 17, none, .bin .add false (.tmp 16) (.const (.int .i64 1))⟩,
      ⟨some 5, none, .mov (.tmp 17)⟩]))))))
  (.seq (.ops [⟨some 26, none, .mov (.tmp 1)⟩,
    ⟨some 4, none, .mov (.tmp 26)⟩])
  (.ret)))))
def lf_laws_szEventS : LF := { np := 2, N := 27, body := c_laws_szEventS, res := [.tmp 4] }
theorem low_laws_szEventS : LowF Tryz.prog Tryz.f88 lf_laws_szEventS := LowF.mk' (by kernel_rfl) (by kernel_rfl) (by kernel_rfl) (by decide)

/-- laws.toEventS -/
def c_laws_toEventS : LC :=
  .seq (.ops [⟨some 2, none, .mov (.const (.slice none 0 0))⟩])
  (.seq (.ops [⟨some 5, none, .mov (.tmp 0)⟩,
    ⟨some 6, none, .lenSl (.tmp 5)⟩,
    ⟨some 7, none, .mkSlice 46 5 72 (.agg #[.int .i64 0, .string ⟨#[]⟩, .slice none 0 0, .string ⟨#[]⟩, .int .i64 0]) (.tmp 6) (.tmp 6)⟩,
    ⟨some 3, none, .mov (.tmp 7)⟩])
  (.seq (.seq (.ops [⟨some 4, none, .mov (.const (.int .i64 0))⟩])
   (.block 0 (.loop (.seq (.seq (.ops [⟨some 8, none, .mov (.tmp 4)⟩,
        ⟨some 9, none, .mov (.tmp 0)⟩,
        ⟨some 10, none, .lenSl (.tmp 9)⟩,
        ⟨some 11, none, .bin .lss false (.tmp 8) (.tmp 10)⟩])
      (.cond (.tmp 11)
       (.skip)
       (.exit 0)))
     (.seq (.block 1 (.ops [⟨some 14, none, .mov (.tmp 3)⟩,
        ⟨some 15, none, .mov (.tmp 4)⟩,
        ⟨some 16, none, .mov (.tmp 0)⟩,
        ⟨some 17, none, .mov (.tmp 4)⟩,
        ⟨some 18, none, .indexAddr 5 (.tmp 16) (.tmp 17)⟩,
        ⟨some 19, none, .load (some 5) (.tmp 18)⟩,
        ⟨some 20, none, .call 28 [.tmp 19]⟩,
        ⟨some 21, none, .indexAddr 5 (.tmp 14) (.tmp 15)⟩,
        ⟨none, none, .store 5 (.tmp 21) (.tmp 20)⟩]))
     (.ops [⟨some 12, none, .mov (.tmp 4)⟩,
      ⟨some 13, none, .bin .add false (.tmp 12) (.const (.int .i64 1))⟩,
      ⟨some 4, none, .mov (.tmp 13)⟩]))))))
  (.seq (.ops [⟨some 22, none, .mov (.tmp 3)⟩,
    ⟨some 2, none, .mov (.tmp 22)⟩])
  (.ret))))
def lf_laws_toEventS : LF := { np := 1, N := 23, body := c_laws_toEventS, res := [.tmp 2] }
theorem low_laws_toEventS : LowF Tryz.prog Tryz.f90 lf_laws_toEventS := LowF.mk' (by kernel_rfl) (by kernel_rfl) (by kernel_rfl) (by decide)

/-- laws.eqEventS -/
def c_laws_eqEventS : LC :=
  .seq (.ops [⟨some 4, none, .mov (.const (.bool false))⟩])
  (.seq (.seq (.ops [⟨some 6, none, .mov (.tmp 0)⟩,
     ⟨some 7, none, .lenSl (.tmp 6)⟩,
     ⟨some 8, none, .mov (.tmp 1)⟩,
     ⟨some 9, none, .lenSl (.tmp 8)⟩,
     ⟨some 10, none, .bin .neq false (.tmp 7) (.tmp 9)⟩])
   (.cond (.tmp 10)
    (.seq (.ops [⟨some 4, none, .mov (.const (.bool false))⟩])
     (.ret))
    (.skip)))
  (.seq (.seq (.ops [⟨some 5, none, .mov (.const (.int .i64 0))⟩])
   (.block 0 (.loop (.seq (.seq (.ops [⟨some 11, none, .mov (.tmp 5)⟩,
        ⟨some 12, none, .mov (.tmp 0)⟩,
        ⟨some 13, none, .lenSl (.tmp 12)⟩,
        ⟨some 14, none, .bin .lss false (.tmp 11) (.tmp 13)⟩])
      (.cond (.tmp 14)
       (.skip)
       (.exit 0)))
     (.seq (.block 1 (.seq (.dops [⟨some 17, none, .mov (.tmp 0)⟩,
         ⟨some 18, none, .mov (.tmp 5)⟩,
         ⟨some 19, none, .indexAddr 5 (.tmp 17) (.tmp 18)⟩,
         ⟨some 20, none, .load (some 5) (.tmp 19)⟩,
         ⟨some 21, none, .mov (.tmp 1)⟩,
         ⟨some 22, none, .mov (.tmp 5)⟩,
         ⟨some 23, none, .indexAddr 5 (.tmp 21) (.tmp 22)⟩,
         ⟨some 24, none, .load (some 5) (.tmp 23)⟩,
         ⟨some 25, none, .call 30 [.tmp 20, .tmp 24]⟩,
         ⟨some 26, none, .un .not (.tmp 25)⟩])
       (.cond (.tmp 26)
        (.seq (.ops [⟨some 4, none, .mov (.const (.bool false))⟩])
         (.ret))
        (.skip))))
     (.ops [⟨some 15, none, .mov (.tmp 5)⟩,
      ⟨some 16, none, .bin .add false (.tmp 15) (.const (.int .i64 1))⟩,
      ⟨some 5, none, .mov (.tmp 16)⟩]))))))
  (.seq (.ops [⟨some 4, none, .mov (.const (.bool true))⟩])
  (.ret))))
def lf_laws_eqEventS : LF := { np := 2, N := 27, body := c_laws_eqEventS, res := [.tmp 4] }
theorem low_laws_eqEventS : LowF Tryz.prog Tryz.f92 lf_laws_eqEventS := LowF.mk' (by kernel_rfl) (by kernel_rfl) (by kernel_rfl) (by decide)

/-- laws.szBatch -/
def c_laws_szBatch : LC :=
  .seq (.ops [⟨some 2, none, .box 60 (.tmp 0)⟩,
    ⟨some 4, none, .mov (.const (.int .i64 0))⟩])
  (.seq (.ops [⟨some 5, none, .fieldAddr 1 (.tmp 2)⟩,
    ⟨some 6, none, .load none (.tmp 5)⟩,
    ⟨some 7, none, .mov (.tmp 1)⟩,
    ⟨some 8, none, .call 88 [.tmp 6, .tmp 7]⟩,
    ⟨some 1, none, .mov (.tmp 8)⟩])
  (.seq (.seq (.ops [⟨some 9, none, .mov (.tmp 1)⟩,
     ⟨some 10, none, .bin .lss false (.tmp 9) (.const (.int .i64 0))⟩])
   (.cond (.tmp 10)
    (.seq (.ops [⟨some 4, none, .mov (.const (.int .i64 (-1)))⟩])
     (.ret))
    (.skip)))
  (.seq (.ops [⟨some 11, none, .mov (.tmp 1)⟩,
    ⟨some 4, none, .mov (.tmp 11)⟩])
  (.ret))))
def lf_laws_szBatch : LF := { np := 2, N := 12, body := c_laws_szBatch, res := [.tmp 4] }
theorem low_laws_szBatch : LowF Tryz.prog Tryz.f38 lf_laws_szBatch := LowF.mk' (by kernel_rfl) (by kernel_rfl) (by kernel_rfl) (by decide)

/-- laws.toBatch -/
def c_laws_toBatch : LC :=
  .seq (.ops [⟨some 1, none, .box 60 (.tmp 0)⟩,
    ⟨some 2, none, .alloc 65 (.agg #[.int .i64 0, .slice none 0 0])⟩])
  (.seq (.ops [⟨some 3, none, .alloc 65 (.agg #[.int .i64 0, .slice none 0 0])⟩])
  (.seq (.ops [⟨some 4, none, .fieldAddr 0 (.tmp 1)⟩,
    ⟨some 5, none, .load none (.tmp 4)⟩,
    ⟨some 6, none, .fieldAddr 0 (.tmp 3)⟩,
    ⟨none, none, .store 1 (.tmp 6) (.tmp 5)⟩])
  (.seq (.ops [⟨some 7, none, .fieldAddr 1 (.tmp 1)⟩,
    ⟨some 8, none, .load none (.tmp 7)⟩,
    ⟨some 9, none, .call 90 [.tmp 8]⟩,
    ⟨some 10, none, .fieldAddr 1 (.tmp 3)⟩,
    ⟨none, none, .store 1 (.tmp 10) (.tmp 9)⟩])
  (.seq (.ops [⟨some 11, none, .load (some 2) (.tmp 3)⟩,
    ⟨none, none, .store 2 (.tmp 2) (.tmp 11)⟩])
  (.ret)))))
def lf_laws_toBatch : LF := { np := 1, N := 12, body := c_laws_toBatch, res := [.cell 2 (some 2)] }
theorem low_laws_toBatch : LowF Tryz.prog Tryz.f40 lf_laws_toBatch := LowF.mk' (by kernel_rfl) (by kernel_rfl) (by kernel_rfl) (by decide)

/-- laws.eqBatch -/
def c_laws_eqBatch : LC :=
  .seq (.ops [⟨some 2, none, .box 65 (.tmp 0)⟩,
    ⟨some 3, none, .box 65 (.tmp 1)⟩,
    ⟨some 4, none, .mov (.const (.bool false))⟩])
  (.seq (.seq (.ops [⟨some 5, none, .fieldAddr 0 (.tmp 2)⟩,
     ⟨some 6, none, .load none (.tmp 5)⟩,
     ⟨some 7, none, .fieldAddr 0 (.tmp 3)⟩,
     ⟨some 8, none, .load none (.tmp 7)⟩,
     ⟨some 9, none, .bin .neq false (.tmp 6) (.tmp 8)⟩])
   (.cond (.tmp 9)
    (.seq (.ops [⟨some 4, none, .mov (.const (.bool false))⟩])
     (.ret))
    (.skip)))
  (.seq (.seq (.ops [⟨some 10, none, .fieldAddr 1 (.tmp 2)⟩,
     ⟨some 11, none, .load none (.tmp 10)⟩,
     ⟨some 12, none, .fieldAddr 1 (.tmp 3)⟩,
     ⟨some 13, none, .load none (.tmp 12)⟩,
     ⟨some 14, none, .call 92 [.tmp 11, .tmp 13]⟩,
     ⟨some 15, none, .un .not (.tmp 14)⟩])
   (.cond (.tmp 15)
    (.seq (.ops [⟨some 4, none, .mov (.const (.bool false))⟩])
     (.ret))
    (.skip)))
  (.seq (.ops [⟨some 4, none, .mov (.const (.bool true))⟩])
  (.ret))))
def lf_laws_eqBatch : LF := { np := 2, N := 16, body := c_laws_eqBatch, res := [.tmp 4] }
theorem low_laws_eqBatch : LowF Tryz.prog Tryz.f42 lf_laws_eqBatch := LowF.mk' (by kernel_rfl) (by kernel_rfl) (by kernel_rfl) (by decide)

/-- laws.szTrans -/
def c_laws_szTrans : LC :=
  .seq (.ops [⟨some 2, none, .box 70 (.tmp 0)⟩,
    ⟨some 4, none, .mov (.const (.int .i64 0))⟩])
  (.seq (.ops [⟨some 5, none, .fieldAddr 2 (.tmp 2)⟩,
    ⟨some 6, none, .load none (.tmp 5)⟩,
    ⟨some 7, none, .mov (.tmp 1)⟩,
    ⟨some 8, none, .call 88 [.tmp 6, .tmp 7]⟩,
    ⟨some 1, none, .mov (.tmp 8)⟩])
  (.seq (.seq (.ops [⟨some 9, none, .mov (.tmp 1)⟩,
     ⟨some 10, none, .bin .lss false (.tmp 9) (.const (.int .i64 0))⟩])
   (.cond (.tmp 10)
    (.seq (.ops [⟨some 4, none, .mov (.const (.int .i64 (-1)))⟩])
     (.ret))
    (.skip)))
  (.seq (.ops [⟨some 11, none, .mov (.tmp 1)⟩,
    ⟨some 4, none, .mov (.tmp 11)⟩])
  (.ret))))
def lf_laws_szTrans : LF := { np := 2, N := 12, body := c_laws_szTrans, res := [.tmp 4] }
theorem low_laws_szTrans : LowF Tryz.prog Tryz.f43 lf_laws_szTrans := LowF.mk' (by kernel_rfl) (by kernel_rfl) (by kernel_rfl) (by decide)

/-- laws.toTrans -/
def c_laws_toTrans : LC :=
  .seq (.ops [⟨some 1, none, .box 70 (.tmp 0)⟩,
    ⟨some 2, none, .alloc 74 (.agg #[.int .i64 0, .int .i64 0, .slice none 0 0])⟩])
  (.seq (.ops [⟨some 3, none, .alloc 74 (.agg #[.int .i64 0, .int .i64 0, .slice none 0 0])⟩])
  (.seq (.ops [⟨some 4, none, .fieldAddr 0 (.tmp 1)⟩,
    ⟨some 5, none, .load none (.tmp 4)⟩,
    ⟨some 6, none, .fieldAddr 0 (.tmp 3)⟩,
    ⟨none, none, .store 1 (.tmp 6) (.tmp 5)⟩])
  (.seq (.ops [⟨some 7, none, .fieldAddr 1 (.tmp 1)⟩,
    ⟨some 8, none, .load none (.tmp 7)⟩,
    ⟨some 9, none, .fieldAddr 1 (.tmp 3)⟩,
    ⟨none, none, .store 1 (.tmp 9) (.tmp 8)⟩])
  (.seq (.ops [⟨some 10, none, .fieldAddr 2 (.tmp 1)⟩,
    ⟨some 11, none, .load none (.tmp 10)⟩,
    ⟨some 12, none, .call 90 [.tmp 11]⟩,
    ⟨some 13, none, .fieldAddr 2 (.tmp 3)⟩,
    ⟨none, none, .store 1 (.tmp 13) (.tmp 12)⟩])
  (.seq (.ops [⟨some 14, none, .load (some 3) (.tmp 3)⟩,
    ⟨none, none, .store 3 (.tmp 2) (.tmp 14)⟩])
  (.ret))))))
def lf_laws_toTrans : LF := { np := 1, N := 15, body := c_laws_toTrans, res := [.cell 2 (some 3)] }
theorem low_laws_toTrans : LowF Tryz.prog Tryz.f45 lf_laws_toTrans := LowF.mk' (by kernel_rfl) (by kernel_rfl) (by kernel_rfl) (by decide)

/-- laws.eqTrans -/
def c_laws_eqTrans : LC :=
  .seq (.ops [⟨some 2, none, .box 74 (.tmp 0)⟩,
    ⟨some 3, none, .box 74 (.tmp 1)⟩,
    ⟨some 4, none, .mov (.const (.bool false))⟩])
  (.seq (.seq (.ops [⟨some 5, none, .fieldAddr 0 (.tmp 2)⟩,
     ⟨some 6, none, .load none (.tmp 5)⟩,
     ⟨some 7, none, .fieldAddr 0 (.tmp 3)⟩,
     ⟨some 8, none, .load none (.tmp 7)⟩,
     ⟨some 9, none, .bin .neq false (.tmp 6) (.tmp 8)⟩])
   (.cond (.tmp 9)
    (.seq (.ops [⟨some 4, none, .mov (.const (.bool false))⟩])
     (.ret))
    (.skip)))
  (.seq (.seq (.ops [⟨some 10, none, .fieldAddr 1 (.tmp 2)⟩,
     ⟨some 11, none, .load none (.tmp 10)⟩,
     ⟨some 12, none, .fieldAddr 1 (.tmp 3)⟩,
     ⟨some 13, none, .load none (.tmp 12)⟩,
     ⟨some 14, none, .bin .neq false (.tmp 11) (.tmp 13)⟩])
   (.cond (.tmp 14)
    (.seq (.ops [⟨some 4, none, .mov (.const (.bool false))⟩])
     (.ret))
    (.skip)))
  (.seq (.seq (.ops [⟨some 15, none, .fieldAddr 2 (.tmp 2)⟩,
     ⟨some 16, none, .load none (.tmp 15)⟩,
     ⟨some 17, none, .fieldAddr 2 (.tmp 3)⟩,
     ⟨some 18, none, .load none (.tmp 17)⟩,
     ⟨some 19, none, .call 92 [.tmp 16, .tmp 18]⟩,
     ⟨some 20, none, .un .not (.tmp 19)⟩])
   (.cond (.tmp 20)
    (.seq (.ops [⟨some 4, none, .mov (.const (.bool false))⟩])
     (.ret))
    (.skip)))
  (.seq (.ops [⟨some 4, none, .mov (.const (.bool true))⟩])
  (.ret)))))
def lf_laws_eqTrans : LF := { np := 2, N := 21, body := c_laws_eqTrans, res := [.tmp 4] }
theorem low_laws_eqTrans : LowF Tryz.prog Tryz.f47 lf_laws_eqTrans := LowF.mk' (by kernel_rfl) (by kernel_rfl) (by kernel_rfl) (by decide)

theorem szStringS_ok (xs : List ByteArray) (l : Int) (h0 : 0 ≤ l) (h1 : l ≤ 1048576) (hw : wfList wfStr xs) (h : List Row) : PureCall Tryz.prog 17 [.list 0 1 (xs.map cStr), .val (.int .i64 l)] h (.val (.int .i64 (szR (szList ByteArray.size xs) l))) := by
  obtain ⟨hx, hs⟩ := hw
  refine pure_fn mixed Tryz.func17 low_laws_szStringS rfl rfl ?_ h
  simp (disch := omega) only [lf_laws_szStringS, c_laws_szStringS, Ex_cond, go_sem, Nat.reduceEqDiff, Nat.reduceAdd, Nat.reduceLeDiff, reduceCtorEq, Int.reduceLT, Int.reduceLE, Int.reduceNeg, Int.reduceSub, Int.reduceAdd, Int.reduceToNat, ↓reduceIte, wrap_in]
  refine ⟨fun hn => ?_, fun hn => ?_⟩
  · rw [szR_neg (by simp only [szList]; omega)]; exact resolve_val _ _
  · refine Ex_loop (fun n t h => ∃ (k : Nat) (m : Int), t 0 = .list 0 1 (xs.map cStr) ∧ t 5 = .val (.int .i64 k) ∧ t 1 = .val (.int .i64 m) ∧ h = [] ∧ n = xs.length - k ∧ k ≤ xs.length ∧ 0 ≤ m ∧ m ≤ 1048576 ∧ szR (szList ByteArray.size xs) l = szR (sumOf ByteArray.size (xs.drop k)) m) xs.length ?_ ?_
    · exact ⟨0, l - xs.length, rfl, rfl, rfl, rfl, rfl, Nat.zero_le _, by omega, by omega, szR_sub (by omega)⟩
    · rintro J hJ n t h ⟨k, m, t0, t5, t1, rfl, rfl, hk, hm0, hm1, hS⟩
      by_cases hlt : k < xs.length
      · have hd := sumOf_drop ByteArray.size xs k hlt
        have hwk := hs _ (List.getElem_mem hlt)
        rw [hd] at hS
        unfold wfStr at hwk
        simp (disch := omega) only [t0, t5, t1, hlt, Ex_cond, go_sem, Nat.reduceEqDiff, Nat.reduceAdd, Nat.reduceLeDiff, reduceCtorEq, Int.reduceLT, Int.reduceLE, Int.reduceNeg, Int.reduceSub, Int.reduceAdd, Int.reduceToNat, ↓reduceIte, wrap_in]
        refine ⟨fun hn2 => ?_, fun hn2 => ?_⟩
        · rw [hS, szR_neg (by omega)]; exact resolve_val _ _
        · exact ⟨xs.length - (k + 1), by omega, hJ _ _ _ ⟨k + 1, m - xs[k].size, by simp [upd, t0], by simp [upd], by simp [upd], rfl, rfl, by omega, by omega, by omega, by rw [hS, szR_sub (by omega)]⟩⟩
      · simp (disch := omega) only [t0, t5, t1, hlt, Ex_cond, go_sem, Nat.reduceEqDiff, Nat.reduceAdd, Nat.reduceLeDiff, reduceCtorEq, Int.reduceLT, Int.reduceLE, Int.reduceNeg, Int.reduceSub, Int.reduceAdd, Int.reduceToNat, ↓reduceIte]
        rw [hS, List.drop_eq_nil_of_le (by omega), szR_pos (by simp only [sumOf]; omega)]
        simp only [sumOf, Int.natCast_zero, Int.sub_zero]
        exact resolve_val _ _

theorem toStringS_ok (xs : List ByteArray) (hb : (szList ByteArray.size) xs ≤ 1048576) (h : List Row) : PureCall Tryz.prog 19 [.list 0 1 (xs.map cStr)] h (.list 0 1 (xs.map cStr)) := by
  have hx := Nat.le_trans (szList_length (f := ByteArray.size) (xs := xs)) hb
  refine pure_fn mixed Tryz.func19 low_laws_toStringS rfl rfl ?_ h
  simp (disch := omega) only [lf_laws_toStringS, c_laws_toStringS, Ex_cond, go_sem, Nat.reduceEqDiff, Nat.reduceAdd, Nat.reduceLeDiff, reduceCtorEq, Int.reduceLT, Int.reduceLE, Int.reduceNeg, Int.reduceSub, Int.reduceAdd, Int.reduceToNat, ↓reduceIte, wrap_in]
  refine ⟨by omega, by omega, ?_⟩
  refine Ex_loop (fun n t h => ∃ k : Nat, t 0 = .list 0 1 (xs.map cStr) ∧ t 3 = .own 0 xs.length ∧ t 4 = .val (.int .i64 k) ∧ h = [⟨9, 1, fillTo (xs.map cStr) [.val (.string ⟨#[]⟩)] k⟩] ∧ n = xs.length - k ∧ k ≤ xs.length) xs.length ?_ ?_
  · exact ⟨0, rfl, rfl, rfl, by rw [fillTo_zero]; simp, rfl, Nat.zero_le _⟩
  · rintro J hJ n t h ⟨k, t0, t3, t4, rfl, rfl, hk⟩
    have fl : (fillTo (xs.map cStr) [.val (.string ⟨#[]⟩)] k).length = xs.length := by rw [fillTo_length _ _ (by simpa using hk)]; simp
    by_cases hlt : k < xs.length
    · have fg : (fillTo (xs.map cStr) [.val (.string ⟨#[]⟩)] k)[k]? = some [.val (.string ⟨#[]⟩)] := fillTo_get _ _ (by simpa using hlt)
      have fs := fillTo_set' (xs.map cStr) [.val (.string ⟨#[]⟩)] (cStr xs[k]) (k := k) (by rw [List.getElem?_map, List.getElem?_eq_getElem hlt]; rfl)
      simp (disch := omega) only [t0, t3, t4, hlt, fl, fg, Ex_cond, go_sem, Nat.reduceEqDiff, Nat.reduceAdd, Nat.reduceLeDiff, reduceCtorEq, Int.reduceLT, Int.reduceLE, Int.reduceNeg, Int.reduceSub, Int.reduceAdd, Int.reduceToNat, ↓reduceIte, wrap_in]
      try simp (disch := omega) only [fs, fl, fg, Ex_cond, go_sem, Nat.reduceEqDiff, Nat.reduceAdd, Nat.reduceLeDiff, reduceCtorEq, Int.reduceLT, Int.reduceLE, Int.reduceNeg, Int.reduceSub, Int.reduceAdd, Int.reduceToNat, ↓reduceIte, wrap_in]
      exact ⟨xs.length - (k + 1), by omega, hJ _ _ _ ⟨k + 1, by simp [upd, t0], by simp [upd, t3], by simp [upd], by simp [fs], rfl, by omega⟩⟩
    · simp (disch := omega) only [t0, t3, t4, hlt, fl, Ex_cond, go_sem, Nat.reduceEqDiff, Nat.reduceAdd, Nat.reduceLeDiff, reduceCtorEq, Int.reduceLT, Int.reduceLE, Int.reduceNeg, Int.reduceSub, Int.reduceAdd, Int.reduceToNat, ↓reduceIte, wrap_in]
      have ff : fillTo (xs.map cStr) [.val (.string ⟨#[]⟩)] k = xs.map cStr := fillTo_all _ _ (by simp; omega)
      rw [ff]
      exact resolve_own (r := ⟨9, 1, xs.map cStr⟩) rfl (by simp) (by intro e he; obtain ⟨x, _, q⟩ := List.mem_map.1 he; subst q; rfl)

theorem eqStringS_ok (xs : List ByteArray) (hb : (szList ByteArray.size) xs ≤ 1048576) (h : List Row) : PureCall Tryz.prog 21 [.list 0 1 (xs.map cStr), .list 0 1 (xs.map cStr)] h (.val (.bool true)) := by
  have hx := Nat.le_trans (szList_length (f := ByteArray.size) (xs := xs)) hb
  refine pure_fn mixed Tryz.func21 low_laws_eqStringS rfl rfl ?_ h
  simp (disch := omega) only [lf_laws_eqStringS, c_laws_eqStringS, Ex_cond, go_sem, Nat.reduceEqDiff, Nat.reduceAdd, Nat.reduceLeDiff, reduceCtorEq, Int.reduceLT, Int.reduceLE, Int.reduceNeg, Int.reduceSub, Int.reduceAdd, Int.reduceToNat, ↓reduceIte, wrap_in]
  refine Ex_loop (fun n t h => ∃ k : Nat, t 0 = .list 0 1 (xs.map cStr) ∧ t 1 = .list 0 1 (xs.map cStr) ∧ t 5 = .val (.int .i64 k) ∧ h = [] ∧ n = xs.length - k ∧ k ≤ xs.length) xs.length ?_ ?_
  · exact ⟨0, rfl, rfl, rfl, rfl, rfl, Nat.zero_le _⟩
  · rintro J hJ n t h ⟨k, t0, t1, t5, rfl, rfl, hk⟩
    by_cases hlt : k < xs.length
    · simp (disch := omega) only [t0, t1, t5, hlt, Ex_cond, go_sem, Nat.reduceEqDiff, Nat.reduceAdd, Nat.reduceLeDiff, reduceCtorEq, Int.reduceLT, Int.reduceLE, Int.reduceNeg, Int.reduceSub, Int.reduceAdd, Int.reduceToNat, ↓reduceIte, wrap_in]
      exact ⟨xs.length - (k + 1), by omega, hJ _ _ _ ⟨k + 1, by simp [upd, t0], by simp [upd, t1], by simp [upd], rfl, rfl, by omega⟩⟩
    · simp (disch := omega) only [t0, t1, t5, hlt, Ex_cond, go_sem, Nat.reduceEqDiff, Nat.reduceAdd, Nat.reduceLeDiff, reduceCtorEq, Int.reduceLT, Int.reduceLE, Int.reduceNeg, Int.reduceSub, Int.reduceAdd, Int.reduceToNat, ↓reduceIte, wrap_in]
      exact resolve_val _ _

theorem szLock_ok (x : GLock) (l : Int) (h0 : 0 ≤ l) (h1 : l ≤ 1048576) (hw : GLock.wf x) (h : List Row) : PureCall Tryz.prog 94 [.agg (GLock.cells x), .val (.int .i64 l)] h (.val (.int .i64 (szR (GLock.sz x) l))) := by
  obtain ⟨w_Job, w_Count, w_Name, w_Subs, _⟩ := hw
  have hsz : GLock.sz x = ByteArray.size x.Name + (szList ByteArray.size) x.Subs := rfl
  refine pure_fn mixed Tryz.func94 low_laws_szLock rfl rfl ?_ h
  unfold wfStr at w_Name
  simp (disch := omega) only [lf_laws_szLock, c_laws_szLock, GLock.cells, Ex_cond, go_sem, Nat.reduceEqDiff, Nat.reduceAdd, Nat.reduceLeDiff, reduceCtorEq, Int.reduceLT, Int.reduceLE, Int.reduceNeg, Int.reduceSub, Int.reduceAdd, Int.reduceToNat, ↓reduceIte, wrap_in]
  refine ⟨fun hn => ?_, fun hn_Name => ?_⟩
  · rw [szR_neg (by omega)]; exact resolve_val _ _
  try simp (disch := omega) only [wrap_in]
  refine PureCall.call (szStringS_ok x.Subs (l - ByteArray.size x.Name) (by omega) (by omega) w_Subs _) ?_
  by_cases hn_Subs : ((szList ByteArray.size) x.Subs : Int) ≤ l - ByteArray.size x.Name
  case neg =>
    rw [szR_neg (n := (szList ByteArray.size) x.Subs) (l := l - ByteArray.size x.Name) (by omega)]
    simp (disch := omega) only [Ex_cond, go_sem, Nat.reduceEqDiff, Nat.reduceAdd, Nat.reduceLeDiff, reduceCtorEq, Int.reduceLT, Int.reduceLE, Int.reduceNeg, Int.reduceSub, Int.reduceAdd, Int.reduceToNat, ↓reduceIte, wrap_in]
    rw [szR_neg (by omega)]; exact resolve_val _ _
  rw [szR_pos (n := (szList ByteArray.size) x.Subs) (l := l - ByteArray.size x.Name) hn_Subs]
  simp (disch := omega) only [Ex_cond, go_sem, Nat.reduceEqDiff, Nat.reduceAdd, Nat.reduceLeDiff, reduceCtorEq, Int.reduceLT, Int.reduceLE, Int.reduceNeg, Int.reduceSub, Int.reduceAdd, Int.reduceToNat, ↓reduceIte, wrap_in]
  refine ⟨fun hn => absurd hn (by omega), fun _ => ?_⟩
  rw [szR_pos (by omega), hsz]
  have hfin : l - ((ByteArray.size x.Name + (szList ByteArray.size) x.Subs : Nat) : Int) = l - ByteArray.size x.Name - (szList ByteArray.size) x.Subs := by omega
  rw [hfin]; exact resolve_val _ _

theorem toLock_ok (x : GLock) (hb : GLock.sz x ≤ 1048576) (h : List Row) : PureCall Tryz.prog 99 [.agg (GLock.cells x)] h (.agg (GLock.cells x)) := by
  have hsz : GLock.sz x = ByteArray.size x.Name + (szList ByteArray.size) x.Subs := rfl
  refine pure_fn mixed Tryz.func99 low_laws_toLock rfl rfl ?_ h
  simp (disch := omega) only [lf_laws_toLock, c_laws_toLock, GLock.cells, Ex_cond, go_sem, Nat.reduceEqDiff, Nat.reduceAdd, Nat.reduceLeDiff, reduceCtorEq, Int.reduceLT, Int.reduceLE, Int.reduceNeg, Int.reduceSub, Int.reduceAdd, Int.reduceToNat, ↓reduceIte, post_cell]
  refine PureCall.call (toStringS_ok x.Subs (by omega) _) ?_
  simp (disch := omega) only [Ex_cond, go_sem, Nat.reduceEqDiff, Nat.reduceAdd, Nat.reduceLeDiff, reduceCtorEq, Int.reduceLT, Int.reduceLE, Int.reduceNeg, Int.reduceSub, Int.reduceAdd, Int.reduceToNat, ↓reduceIte, post_cell]
  exact resolve_agg _ _ rfl

theorem eqLock_ok (x : GLock) (hb : GLock.sz x ≤ 1048576) (h : List Row) : PureCall Tryz.prog 104 [.agg (GLock.cells x), .agg (GLock.cells x)] h (.val (.bool true)) := by
  have hsz : GLock.sz x = ByteArray.size x.Name + (szList ByteArray.size) x.Subs := rfl
  refine pure_fn mixed Tryz.func104 low_laws_eqLock rfl rfl ?_ h
  simp (disch := omega) only [lf_laws_eqLock, c_laws_eqLock, GLock.cells, Ex_cond, go_sem, Nat.reduceEqDiff, Nat.reduceAdd, Nat.reduceLeDiff, reduceCtorEq, Int.reduceLT, Int.reduceLE, Int.reduceNeg, Int.reduceSub, Int.reduceAdd, Int.reduceToNat, ↓reduceIte]
  refine PureCall.call (eqStringS_ok x.Subs (by omega) _) ?_
  simp (disch := omega) only [Ex_cond, go_sem, Nat.reduceEqDiff, Nat.reduceAdd, Nat.reduceLeDiff, reduceCtorEq, Int.reduceLT, Int.reduceLE, Int.reduceNeg, Int.reduceSub, Int.reduceAdd, Int.reduceToNat, ↓reduceIte]
  exact resolve_val _ _

theorem szLockS_ok (xs : List GLock) (l : Int) (h0 : 0 ≤ l) (h1 : l ≤ 1048576) (hw : wfList GLock.wf xs) (h : List Row) : PureCall Tryz.prog 48 [.list 0 4 (xs.map GLock.cells), .val (.int .i64 l)] h (.val (.int .i64 (szR (szList GLock.sz xs) l))) := by
  obtain ⟨hx, hs⟩ := hw
  refine pure_fn mixed Tryz.func48 low_laws_szLockS rfl rfl ?_ h
  simp (disch := omega) only [lf_laws_szLockS, c_laws_szLockS, Ex_cond, go_sem, Nat.reduceEqDiff, Nat.reduceAdd, Nat.reduceLeDiff, reduceCtorEq, Int.reduceLT, Int.reduceLE, Int.reduceNeg, Int.reduceSub, Int.reduceAdd, Int.reduceToNat, ↓reduceIte, wrap_in]
  refine ⟨fun hn => ?_, fun hn => ?_⟩
  · rw [szR_neg (by simp only [szList]; omega)]; exact resolve_val _ _
  · refine Ex_loop (fun n t h => ∃ (k : Nat) (m : Int), t 0 = .list 0 4 (xs.map GLock.cells) ∧ t 5 = .val (.int .i64 k) ∧ t 1 = .val (.int .i64 m) ∧ h = [] ∧ n = xs.length - k ∧ k ≤ xs.length ∧ 0 ≤ m ∧ m ≤ 1048576 ∧ szR (szList GLock.sz xs) l = szR (sumOf GLock.sz (xs.drop k)) m) xs.length ?_ ?_
    · exact ⟨0, l - xs.length, rfl, rfl, rfl, rfl, rfl, Nat.zero_le _, by omega, by omega, szR_sub (by omega)⟩
    · rintro J hJ n t h ⟨k, m, t0, t5, t1, rfl, rfl, hk, hm0, hm1, hS⟩
      by_cases hlt : k < xs.length
      · have hd := sumOf_drop GLock.sz xs k hlt
        have hwk := hs _ (List.getElem_mem hlt)
        rw [hd] at hS
        simp (disch := omega) only [t0, t5, t1, hlt, GLock.cells, Ex_cond, go_sem, Nat.reduceEqDiff, Nat.reduceAdd, Nat.reduceLeDiff, reduceCtorEq, Int.reduceLT, Int.reduceLE, Int.reduceNeg, Int.reduceSub, Int.reduceAdd, Int.reduceToNat, ↓reduceIte, wrap_in]
        refine PureCall.call (szLock_ok xs[k] m hm0 hm1 hwk []) ?_
        by_cases hc : (GLock.sz xs[k] : Int) ≤ m
        · rw [szR_pos (n := GLock.sz xs[k]) (l := m) hc]
          simp (disch := omega) only [t0, t5, t1, Ex_cond, go_sem, Nat.reduceEqDiff, Nat.reduceAdd, Nat.reduceLeDiff, reduceCtorEq, Int.reduceLT, Int.reduceLE, Int.reduceNeg, Int.reduceSub, Int.reduceAdd, Int.reduceToNat, ↓reduceIte, wrap_in]
          refine ⟨fun hn2 => absurd hn2 (by omega), fun _ => ?_⟩
          exact ⟨xs.length - (k + 1), by omega, hJ _ _ _ ⟨k + 1, m - GLock.sz xs[k], by simp [upd, t0], by simp [upd], by simp [upd], rfl, rfl, by omega, by omega, by omega, by rw [hS, szR_sub (by omega)]⟩⟩
        · rw [szR_neg (n := GLock.sz xs[k]) (l := m) (by omega)]
          simp (disch := omega) only [t0, t5, t1, Ex_cond, go_sem, Nat.reduceEqDiff, Nat.reduceAdd, Nat.reduceLeDiff, reduceCtorEq, Int.reduceLT, Int.reduceLE, Int.reduceNeg, Int.reduceSub, Int.reduceAdd, Int.reduceToNat, ↓reduceIte, wrap_in]
          rw [hS, szR_neg (by omega)]; exact resolve_val _ _
      · simp (disch := omega) only [t0, t5, t1, hlt, Ex_cond, go_sem, Nat.reduceEqDiff, Nat.reduceAdd, Nat.reduceLeDiff, reduceCtorEq, Int.reduceLT, Int.reduceLE, Int.reduceNeg, Int.reduceSub, Int.reduceAdd, Int.reduceToNat, ↓reduceIte]
        rw [hS, List.drop_eq_nil_of_le (by omega), szR_pos (by simp only [sumOf]; omega)]
        simp only [sumOf, Int.natCast_zero, Int.sub_zero]
        exact resolve_val _ _

theorem toLockS_ok (xs : List GLock) (hb : (szList GLock.sz) xs ≤ 1048576) (h : List Row) : PureCall Tryz.prog 51 [.list 0 4 (xs.map GLock.cells)] h (.list 0 4 (xs.map GLock.cells)) := by
  have hx := Nat.le_trans (szList_length (f := GLock.sz) (xs := xs)) hb
  refine pure_fn mixed Tryz.func51 low_laws_toLockS rfl rfl ?_ h
  simp (disch := omega) only [lf_laws_toLockS, c_laws_toLockS, Ex_cond, go_sem, Nat.reduceEqDiff, Nat.reduceAdd, Nat.reduceLeDiff, reduceCtorEq, Int.reduceLT, Int.reduceLE, Int.reduceNeg, Int.reduceSub, Int.reduceAdd, Int.reduceToNat, ↓reduceIte, wrap_in]
  refine ⟨by omega, by omega, ?_⟩
  refine Ex_loop (fun n t h => ∃ k : Nat, t 0 = .list 0 4 (xs.map GLock.cells) ∧ t 3 = .own 0 xs.length ∧ t 4 = .val (.int .i64 k) ∧ h = [⟨93, 4, fillTo (xs.map GLock.cells) [.val (.int .i64 0), .val (.int .i64 0), .val (.string ⟨#[]⟩), .val (.slice none 0 0)] k⟩] ∧ n = xs.length - k ∧ k ≤ xs.length) xs.length ?_ ?_
  · exact ⟨0, rfl, rfl, rfl, by rw [fillTo_zero]; simp, rfl, Nat.zero_le _⟩
  · rintro J hJ n t h ⟨k, t0, t3, t4, rfl, rfl, hk⟩
    have fl : (fillTo (xs.map GLock.cells) [.val (.int .i64 0), .val (.int .i64 0), .val (.string ⟨#[]⟩), .val (.slice none 0 0)] k).length = xs.length := by rw [fillTo_length _ _ (by simpa using hk)]; simp
    by_cases hlt : k < xs.length
    · have fg : (fillTo (xs.map GLock.cells) [.val (.int .i64 0), .val (.int .i64 0), .val (.string ⟨#[]⟩), .val (.slice none 0 0)] k)[k]? = some [.val (.int .i64 0), .val (.int .i64 0), .val (.string ⟨#[]⟩), .val (.slice none 0 0)] := fillTo_get _ _ (by simpa using hlt)
      have fs := fillTo_set' (xs.map GLock.cells) [.val (.int .i64 0), .val (.int .i64 0), .val (.string ⟨#[]⟩), .val (.slice none 0 0)] (GLock.cells xs[k]) (k := k) (by rw [List.getElem?_map, List.getElem?_eq_getElem hlt]; rfl)
      simp only [GLock.cells] at fs
      simp (disch := omega) only [t0, t3, t4, hlt, fl, fg, GLock.cells, Ex_cond, go_sem, Nat.reduceEqDiff, Nat.reduceAdd, Nat.reduceLeDiff, reduceCtorEq, Int.reduceLT, Int.reduceLE, Int.reduceNeg, Int.reduceSub, Int.reduceAdd, Int.reduceToNat, ↓reduceIte, wrap_in]
      refine PureCall.call (toLock_ok xs[k] (by have := szList_mem (f := GLock.sz) (List.getElem_mem hlt); omega) _) ?_
      simp (disch := omega) only [t0, t3, t4, hlt, fl, fg, fs, GLock.cells, Ex_cond, go_sem, Nat.reduceEqDiff, Nat.reduceAdd, Nat.reduceLeDiff, reduceCtorEq, Int.reduceLT, Int.reduceLE, Int.reduceNeg, Int.reduceSub, Int.reduceAdd, Int.reduceToNat, ↓reduceIte, wrap_in]
      exact ⟨xs.length - (k + 1), by omega, hJ _ _ _ ⟨k + 1, by simp [upd, t0], by simp [upd, t3], by simp [upd], rfl, rfl, by omega⟩⟩
    · simp (disch := omega) only [t0, t3, t4, hlt, fl, Ex_cond, go_sem, Nat.reduceEqDiff, Nat.reduceAdd, Nat.reduceLeDiff, reduceCtorEq, Int.reduceLT, Int.reduceLE, Int.reduceNeg, Int.reduceSub, Int.reduceAdd, Int.reduceToNat, ↓reduceIte, wrap_in]
      have ff : fillTo (xs.map GLock.cells) [.val (.int .i64 0), .val (.int .i64 0), .val (.string ⟨#[]⟩), .val (.slice none 0 0)] k = xs.map GLock.cells := fillTo_all _ _ (by simp; omega)
      rw [ff]
      exact resolve_own (r := ⟨93, 4, xs.map GLock.cells⟩) rfl (by simp) (by intro e he; obtain ⟨x, _, q⟩ := List.mem_map.1 he; subst q; rfl)

theorem eqLockS_ok (xs : List GLock) (hb : (szList GLock.sz) xs ≤ 1048576) (h : List Row) : PureCall Tryz.prog 57 [.list 0 4 (xs.map GLock.cells), .list 0 4 (xs.map GLock.cells)] h (.val (.bool true)) := by
  have hx := Nat.le_trans (szList_length (f := GLock.sz) (xs := xs)) hb
  refine pure_fn mixed Tryz.func57 low_laws_eqLockS rfl rfl ?_ h
  simp (disch := omega) only [lf_laws_eqLockS, c_laws_eqLockS, Ex_cond, go_sem, Nat.reduceEqDiff, Nat.reduceAdd, Nat.reduceLeDiff, reduceCtorEq, Int.reduceLT, Int.reduceLE, Int.reduceNeg, Int.reduceSub, Int.reduceAdd, Int.reduceToNat, ↓reduceIte, wrap_in]
  refine Ex_loop (fun n t h => ∃ k : Nat, t 0 = .list 0 4 (xs.map GLock.cells) ∧ t 1 = .list 0 4 (xs.map GLock.cells) ∧ t 5 = .val (.int .i64 k) ∧ h = [] ∧ n = xs.length - k ∧ k ≤ xs.length) xs.length ?_ ?_
  · exact ⟨0, rfl, rfl, rfl, rfl, rfl, Nat.zero_le _⟩
  · rintro J hJ n t h ⟨k, t0, t1, t5, rfl, rfl, hk⟩
    by_cases hlt : k < xs.length
    · simp (disch := omega) only [t0, t1, t5, hlt, GLock.cells, Ex_cond, go_sem, Nat.reduceEqDiff, Nat.reduceAdd, Nat.reduceLeDiff, reduceCtorEq, Int.reduceLT, Int.reduceLE, Int.reduceNeg, Int.reduceSub, Int.reduceAdd, Int.reduceToNat, ↓reduceIte, wrap_in]
      refine PureCall.q (eqLock_ok xs[k] (by have := szList_mem (f := GLock.sz) (List.getElem_mem hlt); omega) _) ?_
      simp (disch := omega) only [t0, t1, t5, hlt, GLock.cells, Ex_cond, go_sem, Nat.reduceEqDiff, Nat.reduceAdd, Nat.reduceLeDiff, reduceCtorEq, Int.reduceLT, Int.reduceLE, Int.reduceNeg, Int.reduceSub, Int.reduceAdd, Int.reduceToNat, ↓reduceIte, wrap_in]
      exact ⟨xs.length - (k + 1), by omega, hJ _ _ _ ⟨k + 1, by simp [upd, t0], by simp [upd, t1], by simp [upd], rfl, rfl, by omega⟩⟩
    · simp (disch := omega) only [t0, t1, t5, hlt, Ex_cond, go_sem, Nat.reduceEqDiff, Nat.reduceAdd, Nat.reduceLeDiff, reduceCtorEq, Int.reduceLT, Int.reduceLE, Int.reduceNeg, Int.reduceSub, Int.reduceAdd, Int.reduceToNat, ↓reduceIte, wrap_in]
      exact resolve_val _ _

theorem szAsk_ok (x : GAsk) (l : Int) (h0 : 0 ≤ l) (h1 : l ≤ 1048576) (hw : GAsk.wf x) (h : List Row) : PureCall Tryz.prog 95 [.agg (GAsk.cells x), .val (.int .i64 l)] h (.val (.int .i64 (szR (GAsk.sz x) l))) := by
  obtain ⟨w_Job, w_Until, w_Name, w_Subs, _⟩ := hw
  have hsz : GAsk.sz x = ByteArray.size x.Name + (szList ByteArray.size) x.Subs := rfl
  refine pure_fn mixed Tryz.func95 low_laws_szAsk rfl rfl ?_ h
  unfold wfStr at w_Name
  simp (disch := omega) only [lf_laws_szAsk, c_laws_szAsk, GAsk.cells, Ex_cond, go_sem, Nat.reduceEqDiff, Nat.reduceAdd, Nat.reduceLeDiff, reduceCtorEq, Int.reduceLT, Int.reduceLE, Int.reduceNeg, Int.reduceSub, Int.reduceAdd, Int.reduceToNat, ↓reduceIte, wrap_in]
  refine ⟨fun hn => ?_, fun hn_Name => ?_⟩
  · rw [szR_neg (by omega)]; exact resolve_val _ _
  try simp (disch := omega) only [wrap_in]
  refine PureCall.call (szStringS_ok x.Subs (l - ByteArray.size x.Name) (by omega) (by omega) w_Subs _) ?_
  by_cases hn_Subs : ((szList ByteArray.size) x.Subs : Int) ≤ l - ByteArray.size x.Name
  case neg =>
    rw [szR_neg (n := (szList ByteArray.size) x.Subs) (l := l - ByteArray.size x.Name) (by omega)]
    simp (disch := omega) only [Ex_cond, go_sem, Nat.reduceEqDiff, Nat.reduceAdd, Nat.reduceLeDiff, reduceCtorEq, Int.reduceLT, Int.reduceLE, Int.reduceNeg, Int.reduceSub, Int.reduceAdd, Int.reduceToNat, ↓reduceIte, wrap_in]
    rw [szR_neg (by omega)]; exact resolve_val _ _
  rw [szR_pos (n := (szList ByteArray.size) x.Subs) (l := l - ByteArray.size x.Name) hn_Subs]
  simp (disch := omega) only [Ex_cond, go_sem, Nat.reduceEqDiff, Nat.reduceAdd, Nat.reduceLeDiff, reduceCtorEq, Int.reduceLT, Int.reduceLE, Int.reduceNeg, Int.reduceSub, Int.reduceAdd, Int.reduceToNat, ↓reduceIte, wrap_in]
  refine ⟨fun hn => absurd hn (by omega), fun _ => ?_⟩
  rw [szR_pos (by omega), hsz]
  have hfin : l - ((ByteArray.size x.Name + (szList ByteArray.size) x.Subs : Nat) : Int) = l - ByteArray.size x.Name - (szList ByteArray.size) x.Subs := by omega
  rw [hfin]; exact resolve_val _ _

theorem toAsk_ok (x : GAsk) (hb : GAsk.sz x ≤ 1048576) (h : List Row) : PureCall Tryz.prog 100 [.agg (GAsk.cells x)] h (.agg (GAsk.cells x)) := by
  have hsz : GAsk.sz x = ByteArray.size x.Name + (szList ByteArray.size) x.Subs := rfl
  refine pure_fn mixed Tryz.func100 low_laws_toAsk rfl rfl ?_ h
  simp (disch := omega) only [lf_laws_toAsk, c_laws_toAsk, GAsk.cells, Ex_cond, go_sem, Nat.reduceEqDiff, Nat.reduceAdd, Nat.reduceLeDiff, reduceCtorEq, Int.reduceLT, Int.reduceLE, Int.reduceNeg, Int.reduceSub, Int.reduceAdd, Int.reduceToNat, ↓reduceIte, post_cell]
  refine PureCall.call (toStringS_ok x.Subs (by omega) _) ?_
  simp (disch := omega) only [Ex_cond, go_sem, Nat.reduceEqDiff, Nat.reduceAdd, Nat.reduceLeDiff, reduceCtorEq, Int.reduceLT, Int.reduceLE, Int.reduceNeg, Int.reduceSub, Int.reduceAdd, Int.reduceToNat, ↓reduceIte, post_cell]
  exact resolve_agg _ _ rfl

theorem eqAsk_ok (x : GAsk) (hb : GAsk.sz x ≤ 1048576) (h : List Row) : PureCall Tryz.prog 105 [.agg (GAsk.cells x), .agg (GAsk.cells x)] h (.val (.bool true)) := by
  have hsz : GAsk.sz x = ByteArray.size x.Name + (szList ByteArray.size) x.Subs := rfl
  refine pure_fn mixed Tryz.func105 low_laws_eqAsk rfl rfl ?_ h
  simp (disch := omega) only [lf_laws_eqAsk, c_laws_eqAsk, GAsk.cells, Ex_cond, go_sem, Nat.reduceEqDiff, Nat.reduceAdd, Nat.reduceLeDiff, reduceCtorEq, Int.reduceLT, Int.reduceLE, Int.reduceNeg, Int.reduceSub, Int.reduceAdd, Int.reduceToNat, ↓reduceIte]
  refine PureCall.call (eqStringS_ok x.Subs (by omega) _) ?_
  simp (disch := omega) only [Ex_cond, go_sem, Nat.reduceEqDiff, Nat.reduceAdd, Nat.reduceLeDiff, reduceCtorEq, Int.reduceLT, Int.reduceLE, Int.reduceNeg, Int.reduceSub, Int.reduceAdd, Int.reduceToNat, ↓reduceIte]
  exact resolve_val _ _

theorem szAskS_ok (xs : List GAsk) (l : Int) (h0 : 0 ≤ l) (h1 : l ≤ 1048576) (hw : wfList GAsk.wf xs) (h : List Row) : PureCall Tryz.prog 49 [.list 0 4 (xs.map GAsk.cells), .val (.int .i64 l)] h (.val (.int .i64 (szR (szList GAsk.sz xs) l))) := by
  obtain ⟨hx, hs⟩ := hw
  refine pure_fn mixed Tryz.func49 low_laws_szAskS rfl rfl ?_ h
  simp (disch := omega) only [lf_laws_szAskS, c_laws_szAskS, Ex_cond, go_sem, Nat.reduceEqDiff, Nat.reduceAdd, Nat.reduceLeDiff, reduceCtorEq, Int.reduceLT, Int.reduceLE, Int.reduceNeg, Int.reduceSub, Int.reduceAdd, Int.reduceToNat, ↓reduceIte, wrap_in]
  refine ⟨fun hn => ?_, fun hn => ?_⟩
  · rw [szR_neg (by simp only [szList]; omega)]; exact resolve_val _ _
  · refine Ex_loop (fun n t h => ∃ (k : Nat) (m : Int), t 0 = .list 0 4 (xs.map GAsk.cells) ∧ t 5 = .val (.int .i64 k) ∧ t 1 = .val (.int .i64 m) ∧ h = [] ∧ n = xs.length - k ∧ k ≤ xs.length ∧ 0 ≤ m ∧ m ≤ 1048576 ∧ szR (szList GAsk.sz xs) l = szR (sumOf GAsk.sz (xs.drop k)) m) xs.length ?_ ?_
    · exact ⟨0, l - xs.length, rfl, rfl, rfl, rfl, rfl, Nat.zero_le _, by omega, by omega, szR_sub (by omega)⟩
    · rintro J hJ n t h ⟨k, m, t0, t5, t1, rfl, rfl, hk, hm0, hm1, hS⟩
      by_cases hlt : k < xs.length
      · have hd := sumOf_drop GAsk.sz xs k hlt
        have hwk := hs _ (List.getElem_mem hlt)
        rw [hd] at hS
        simp (disch := omega) only [t0, t5, t1, hlt, GAsk.cells, Ex_cond, go_sem, Nat.reduceEqDiff, Nat.reduceAdd, Nat.reduceLeDiff, reduceCtorEq, Int.reduceLT, Int.reduceLE, Int.reduceNeg, Int.reduceSub, Int.reduceAdd, Int.reduceToNat, ↓reduceIte, wrap_in]
        refine PureCall.call (szAsk_ok xs[k] m hm0 hm1 hwk []) ?_
        by_cases hc : (GAsk.sz xs[k] : Int) ≤ m
        · rw [szR_pos (n := GAsk.sz xs[k]) (l := m) hc]
          simp (disch := omega) only [t0, t5, t1, Ex_cond, go_sem, Nat.reduceEqDiff, Nat.reduceAdd, Nat.reduceLeDiff, reduceCtorEq, Int.reduceLT, Int.reduceLE, Int.reduceNeg, Int.reduceSub, Int.reduceAdd, Int.reduceToNat, ↓reduceIte, wrap_in]
          refine ⟨fun hn2 => absurd hn2 (by omega), fun _ => ?_⟩
          exact ⟨xs.length - (k + 1), by omega, hJ _ _ _ ⟨k + 1, m - GAsk.sz xs[k], by simp [upd, t0], by simp [upd], by simp [upd], rfl, rfl, by omega, by omega, by omega, by rw [hS, szR_sub (by omega)]⟩⟩
        · rw [szR_neg (n := GAsk.sz xs[k]) (l := m) (by omega)]
          simp (disch := omega) only [t0, t5, t1, Ex_cond, go_sem, Nat.reduceEqDiff, Nat.reduceAdd, Nat.reduceLeDiff, reduceCtorEq, Int.reduceLT, Int.reduceLE, Int.reduceNeg, Int.reduceSub, Int.reduceAdd, Int.reduceToNat, ↓reduceIte, wrap_in]
          rw [hS, szR_neg (by omega)]; exact resolve_val _ _
      · simp (disch := omega) only [t0, t5, t1, hlt, Ex_cond, go_sem, Nat.reduceEqDiff, Nat.reduceAdd, Nat.reduceLeDiff, reduceCtorEq, Int.reduceLT, Int.reduceLE, Int.reduceNeg, Int.reduceSub, Int.reduceAdd, Int.reduceToNat, ↓reduceIte]
        rw [hS, List.drop_eq_nil_of_le (by omega), szR_pos (by simp only [sumOf]; omega)]
        simp only [sumOf, Int.natCast_zero, Int.sub_zero]
        exact resolve_val _ _

theorem toAskS_ok (xs : List GAsk) (hb : (szList GAsk.sz) xs ≤ 1048576) (h : List Row) : PureCall Tryz.prog 52 [.list 0 4 (xs.map GAsk.cells)] h (.list 0 4 (xs.map GAsk.cells)) := by
  have hx := Nat.le_trans (szList_length (f := GAsk.sz) (xs := xs)) hb
  refine pure_fn mixed Tryz.func52 low_laws_toAskS rfl rfl ?_ h
  simp (disch := omega) only [lf_laws_toAskS, c_laws_toAskS, Ex_cond, go_sem, Nat.reduceEqDiff, Nat.reduceAdd, Nat.reduceLeDiff, reduceCtorEq, Int.reduceLT, Int.reduceLE, Int.reduceNeg, Int.reduceSub, Int.reduceAdd, Int.reduceToNat, ↓reduceIte, wrap_in]
  refine ⟨by omega, by omega, ?_⟩
  refine Ex_loop (fun n t h => ∃ k : Nat, t 0 = .list 0 4 (xs.map GAsk.cells) ∧ t 3 = .own 0 xs.length ∧ t 4 = .val (.int .i64 k) ∧ h = [⟨84, 4, fillTo (xs.map GAsk.cells) [.val (.int .i64 0), .val (.int .i64 0), .val (.string ⟨#[]⟩), .val (.slice none 0 0)] k⟩] ∧ n = xs.length - k ∧ k ≤ xs.length) xs.length ?_ ?_
  · exact ⟨0, rfl, rfl, rfl, by rw [fillTo_zero]; simp, rfl, Nat.zero_le _⟩
  · rintro J hJ n t h ⟨k, t0, t3, t4, rfl, rfl, hk⟩
    have fl : (fillTo (xs.map GAsk.cells) [.val (.int .i64 0), .val (.int .i64 0), .val (.string ⟨#[]⟩), .val (.slice none 0 0)] k).length = xs.length := by rw [fillTo_length _ _ (by simpa using hk)]; simp
    by_cases hlt : k < xs.length
    · have fg : (fillTo (xs.map GAsk.cells) [.val (.int .i64 0), .val (.int .i64 0), .val (.string ⟨#[]⟩), .val (.slice none 0 0)] k)[k]? = some [.val (.int .i64 0), .val (.int .i64 0), .val (.string ⟨#[]⟩), .val (.slice none 0 0)] := fillTo_get _ _ (by simpa using hlt)
      have fs := fillTo_set' (xs.map GAsk.cells) [.val (.int .i64 0), .val (.int .i64 0), .val (.string ⟨#[]⟩), .val (.slice none 0 0)] (GAsk.cells xs[k]) (k := k) (by rw [List.getElem?_map, List.getElem?_eq_getElem hlt]; rfl)
      simp only [GAsk.cells] at fs
      simp (disch := omega) only [t0, t3, t4, hlt, fl, fg, GAsk.cells, Ex_cond, go_sem, Nat.reduceEqDiff, Nat.reduceAdd, Nat.reduceLeDiff, reduceCtorEq, Int.reduceLT, Int.reduceLE, Int.reduceNeg, Int.reduceSub, Int.reduceAdd, Int.reduceToNat, ↓reduceIte, wrap_in]
      refine PureCall.call (toAsk_ok xs[k] (by have := szList_mem (f := GAsk.sz) (List.getElem_mem hlt); omega) _) ?_
      simp (disch := omega) only [t0, t3, t4, hlt, fl, fg, fs, GAsk.cells, Ex_cond, go_sem, Nat.reduceEqDiff, Nat.reduceAdd, Nat.reduceLeDiff, reduceCtorEq, Int.reduceLT, Int.reduceLE, Int.reduceNeg, Int.reduceSub, Int.reduceAdd, Int.reduceToNat, ↓reduceIte, wrap_in]
      exact ⟨xs.length - (k + 1), by omega, hJ _ _ _ ⟨k + 1, by simp [upd, t0], by simp [upd, t3], by simp [upd], rfl, rfl, by omega⟩⟩
    · simp (disch := omega) only [t0, t3, t4, hlt, fl, Ex_cond, go_sem, Nat.reduceEqDiff, Nat.reduceAdd, Nat.reduceLeDiff, reduceCtorEq, Int.reduceLT, Int.reduceLE, Int.reduceNeg, Int.reduceSub, Int.reduceAdd, Int.reduceToNat, ↓reduceIte, wrap_in]
      have ff : fillTo (xs.map GAsk.cells) [.val (.int .i64 0), .val (.int .i64 0), .val (.string ⟨#[]⟩), .val (.slice none 0 0)] k = xs.map GAsk.cells := fillTo_all _ _ (by simp; omega)
      rw [ff]
      exact resolve_own (r := ⟨84, 4, xs.map GAsk.cells⟩) rfl (by simp) (by intro e he; obtain ⟨x, _, q⟩ := List.mem_map.1 he; subst q; rfl)

theorem eqAskS_ok (xs : List GAsk) (hb : (szList GAsk.sz) xs ≤ 1048576) (h : List Row) : PureCall Tryz.prog 58 [.list 0 4 (xs.map GAsk.cells), .list 0 4 (xs.map GAsk.cells)] h (.val (.bool true)) := by
  have hx := Nat.le_trans (szList_length (f := GAsk.sz) (xs := xs)) hb
  refine pure_fn mixed Tryz.func58 low_laws_eqAskS rfl rfl ?_ h
  simp (disch := omega) only [lf_laws_eqAskS, c_laws_eqAskS, Ex_cond, go_sem, Nat.reduceEqDiff, Nat.reduceAdd, Nat.reduceLeDiff, reduceCtorEq, Int.reduceLT, Int.reduceLE, Int.reduceNeg, Int.reduceSub, Int.reduceAdd, Int.reduceToNat, ↓reduceIte, wrap_in]
  refine Ex_loop (fun n t h => ∃ k : Nat, t 0 = .list 0 4 (xs.map GAsk.cells) ∧ t 1 = .list 0 4 (xs.map GAsk.cells) ∧ t 5 = .val (.int .i64 k) ∧ h = [] ∧ n = xs.length - k ∧ k ≤ xs.length) xs.length ?_ ?_
  · exact ⟨0, rfl, rfl, rfl, rfl, rfl, Nat.zero_le _⟩
  · rintro J hJ n t h ⟨k, t0, t1, t5, rfl, rfl, hk⟩
    by_cases hlt : k < xs.length
    · simp (disch := omega) only [t0, t1, t5, hlt, GAsk.cells, Ex_cond, go_sem, Nat.reduceEqDiff, Nat.reduceAdd, Nat.reduceLeDiff, reduceCtorEq, Int.reduceLT, Int.reduceLE, Int.reduceNeg, Int.reduceSub, Int.reduceAdd, Int.reduceToNat, ↓reduceIte, wrap_in]
      refine PureCall.q (eqAsk_ok xs[k] (by have := szList_mem (f := GAsk.sz) (List.getElem_mem hlt); omega) _) ?_
      simp (disch := omega) only [t0, t1, t5, hlt, GAsk.cells, Ex_cond, go_sem, Nat.reduceEqDiff, Nat.reduceAdd, Nat.reduceLeDiff, reduceCtorEq, Int.reduceLT, Int.reduceLE, Int.reduceNeg, Int.reduceSub, Int.reduceAdd, Int.reduceToNat, ↓reduceIte, wrap_in]
      exact ⟨xs.length - (k + 1), by omega, hJ _ _ _ ⟨k + 1, by simp [upd, t0], by simp [upd, t1], by simp [upd], rfl, rfl, by omega⟩⟩
    · simp (disch := omega) only [t0, t1, t5, hlt, Ex_cond, go_sem, Nat.reduceEqDiff, Nat.reduceAdd, Nat.reduceLeDiff, reduceCtorEq, Int.reduceLT, Int.reduceLE, Int.reduceNeg, Int.reduceSub, Int.reduceAdd, Int.reduceToNat, ↓reduceIte, wrap_in]
      exact resolve_val _ _

theorem szLocks_ok (x : GLocks) (l : Int) (h0 : 0 ≤ l) (h1 : l ≤ 1048576) (hw : GLocks.wf x) (h : List Row) : PureCall Tryz.prog 12 [.agg (GLocks.cells x), .val (.int .i64 l)] h (.val (.int .i64 (szR (GLocks.sz x) l))) := by
  obtain ⟨w_Held, w_Asks, _⟩ := hw
  have hsz : GLocks.sz x = (szList GLock.sz) x.Held + (szList GAsk.sz) x.Asks := rfl
  refine pure_fn mixed Tryz.func12 low_laws_szLocks rfl rfl ?_ h
  simp (disch := omega) only [lf_laws_szLocks, c_laws_szLocks, GLocks.cells, Ex_cond, go_sem, Nat.reduceEqDiff, Nat.reduceAdd, Nat.reduceLeDiff, reduceCtorEq, Int.reduceLT, Int.reduceLE, Int.reduceNeg, Int.reduceSub, Int.reduceAdd, Int.reduceToNat, ↓reduceIte, wrap_in]
  refine PureCall.call (szLockS_ok x.Held (l) (by omega) (by omega) w_Held _) ?_
  by_cases hn_Held : ((szList GLock.sz) x.Held : Int) ≤ l
  case neg =>
    rw [szR_neg (n := (szList GLock.sz) x.Held) (l := l) (by omega)]
    simp (disch := omega) only [Ex_cond, go_sem, Nat.reduceEqDiff, Nat.reduceAdd, Nat.reduceLeDiff, reduceCtorEq, Int.reduceLT, Int.reduceLE, Int.reduceNeg, Int.reduceSub, Int.reduceAdd, Int.reduceToNat, ↓reduceIte, wrap_in]
    rw [szR_neg (by omega)]; exact resolve_val _ _
  rw [szR_pos (n := (szList GLock.sz) x.Held) (l := l) hn_Held]
  simp (disch := omega) only [Ex_cond, go_sem, Nat.reduceEqDiff, Nat.reduceAdd, Nat.reduceLeDiff, reduceCtorEq, Int.reduceLT, Int.reduceLE, Int.reduceNeg, Int.reduceSub, Int.reduceAdd, Int.reduceToNat, ↓reduceIte, wrap_in]
  refine ⟨fun hn => absurd hn (by omega), fun _ => ?_⟩
  refine PureCall.call (szAskS_ok x.Asks (l - (szList GLock.sz) x.Held) (by omega) (by omega) w_Asks _) ?_
  by_cases hn_Asks : ((szList GAsk.sz) x.Asks : Int) ≤ l - (szList GLock.sz) x.Held
  case neg =>
    rw [szR_neg (n := (szList GAsk.sz) x.Asks) (l := l - (szList GLock.sz) x.Held) (by omega)]
    simp (disch := omega) only [Ex_cond, go_sem, Nat.reduceEqDiff, Nat.reduceAdd, Nat.reduceLeDiff, reduceCtorEq, Int.reduceLT, Int.reduceLE, Int.reduceNeg, Int.reduceSub, Int.reduceAdd, Int.reduceToNat, ↓reduceIte, wrap_in]
    rw [szR_neg (by omega)]; exact resolve_val _ _
  rw [szR_pos (n := (szList GAsk.sz) x.Asks) (l := l - (szList GLock.sz) x.Held) hn_Asks]
  simp (disch := omega) only [Ex_cond, go_sem, Nat.reduceEqDiff, Nat.reduceAdd, Nat.reduceLeDiff, reduceCtorEq, Int.reduceLT, Int.reduceLE, Int.reduceNeg, Int.reduceSub, Int.reduceAdd, Int.reduceToNat, ↓reduceIte, wrap_in]
  refine ⟨fun hn => absurd hn (by omega), fun _ => ?_⟩
  rw [szR_pos (by omega), hsz]
  have hfin : l - (((szList GLock.sz) x.Held + (szList GAsk.sz) x.Asks : Nat) : Int) = l - (szList GLock.sz) x.Held - (szList GAsk.sz) x.Asks := by omega
  rw [hfin]; exact resolve_val _ _

theorem toLocks_ok (x : GLocks) (hb : GLocks.sz x ≤ 1048576) (h : List Row) : PureCall Tryz.prog 14 [.agg (GLocks.cells x)] h (.agg (GLocks.cells x)) := by
  have hsz : GLocks.sz x = (szList GLock.sz) x.Held + (szList GAsk.sz) x.Asks := rfl
  refine pure_fn mixed Tryz.func14 low_laws_toLocks rfl rfl ?_ h
  simp (disch := omega) only [lf_laws_toLocks, c_laws_toLocks, GLocks.cells, Ex_cond, go_sem, Nat.reduceEqDiff, Nat.reduceAdd, Nat.reduceLeDiff, reduceCtorEq, Int.reduceLT, Int.reduceLE, Int.reduceNeg, Int.reduceSub, Int.reduceAdd, Int.reduceToNat, ↓reduceIte, post_cell]
  refine PureCall.call (toLockS_ok x.Held (by omega) _) ?_
  simp (disch := omega) only [Ex_cond, go_sem, Nat.reduceEqDiff, Nat.reduceAdd, Nat.reduceLeDiff, reduceCtorEq, Int.reduceLT, Int.reduceLE, Int.reduceNeg, Int.reduceSub, Int.reduceAdd, Int.reduceToNat, ↓reduceIte, post_cell]
  refine PureCall.call (toAskS_ok x.Asks (by omega) _) ?_
  simp (disch := omega) only [Ex_cond, go_sem, Nat.reduceEqDiff, Nat.reduceAdd, Nat.reduceLeDiff, reduceCtorEq, Int.reduceLT, Int.reduceLE, Int.reduceNeg, Int.reduceSub, Int.reduceAdd, Int.reduceToNat, ↓reduceIte, post_cell]
  exact resolve_agg _ _ rfl

theorem eqLocks_ok (x : GLocks) (hb : GLocks.sz x ≤ 1048576) (h : List Row) : PureCall Tryz.prog 16 [.agg (GLocks.cells x), .agg (GLocks.cells x)] h (.val (.bool true)) := by
  have hsz : GLocks.sz x = (szList GLock.sz) x.Held + (szList GAsk.sz) x.Asks := rfl
  refine pure_fn mixed Tryz.func16 low_laws_eqLocks rfl rfl ?_ h
  simp (disch := omega) only [lf_laws_eqLocks, c_laws_eqLocks, GLocks.cells, Ex_cond, go_sem, Nat.reduceEqDiff, Nat.reduceAdd, Nat.reduceLeDiff, reduceCtorEq, Int.reduceLT, Int.reduceLE, Int.reduceNeg, Int.reduceSub, Int.reduceAdd, Int.reduceToNat, ↓reduceIte]
  refine PureCall.call (eqLockS_ok x.Held (by omega) _) ?_
  simp (disch := omega) only [Ex_cond, go_sem, Nat.reduceEqDiff, Nat.reduceAdd, Nat.reduceLeDiff, reduceCtorEq, Int.reduceLT, Int.reduceLE, Int.reduceNeg, Int.reduceSub, Int.reduceAdd, Int.reduceToNat, ↓reduceIte]
  refine PureCall.call (eqAskS_ok x.Asks (by omega) _) ?_
  simp (disch := omega) only [Ex_cond, go_sem, Nat.reduceEqDiff, Nat.reduceAdd, Nat.reduceLeDiff, reduceCtorEq, Int.reduceLT, Int.reduceLE, Int.reduceNeg, Int.reduceSub, Int.reduceAdd, Int.reduceToNat, ↓reduceIte]
  exact resolve_val _ _

theorem szEvent_ok (x : GEvent) (l : Int) (h0 : 0 ≤ l) (h1 : l ≤ 1048576) (hw : GEvent.wf x) (h : List Row) : PureCall Tryz.prog 26 [.agg (GEvent.cells x), .val (.int .i64 l)] h (.val (.int .i64 (szR (GEvent.sz x) l))) := by
  obtain ⟨w_Kind, w_Name, w_Subs, w_Value, w_N, _⟩ := hw
  have hsz : GEvent.sz x = ByteArray.size x.Name + (szList ByteArray.size) x.Subs + ByteArray.size x.Value := rfl
  refine pure_fn mixed Tryz.func26 low_laws_szEvent rfl rfl ?_ h
  unfold wfStr at w_Name
  unfold wfStr at w_Value
  simp (disch := omega) only [lf_laws_szEvent, c_laws_szEvent, GEvent.cells, Ex_cond, go_sem, Nat.reduceEqDiff, Nat.reduceAdd, Nat.reduceLeDiff, reduceCtorEq, Int.reduceLT, Int.reduceLE, Int.reduceNeg, Int.reduceSub, Int.reduceAdd, Int.reduceToNat, ↓reduceIte, wrap_in]
  refine ⟨fun hn => ?_, fun hn_Name => ?_⟩
  · rw [szR_neg (by omega)]; exact resolve_val _ _
  try simp (disch := omega) only [wrap_in]
  refine PureCall.call (szStringS_ok x.Subs (l - ByteArray.size x.Name) (by omega) (by omega) w_Subs _) ?_
  by_cases hn_Subs : ((szList ByteArray.size) x.Subs : Int) ≤ l - ByteArray.size x.Name
  case neg =>
    rw [szR_neg (n := (szList ByteArray.size) x.Subs) (l := l - ByteArray.size x.Name) (by omega)]
    simp (disch := omega) only [Ex_cond, go_sem, Nat.reduceEqDiff, Nat.reduceAdd, Nat.reduceLeDiff, reduceCtorEq, Int.reduceLT, Int.reduceLE, Int.reduceNeg, Int.reduceSub, Int.reduceAdd, Int.reduceToNat, ↓reduceIte, wrap_in]
    rw [szR_neg (by omega)]; exact resolve_val _ _
  rw [szR_pos (n := (szList ByteArray.size) x.Subs) (l := l - ByteArray.size x.Name) hn_Subs]
  simp (disch := omega) only [Ex_cond, go_sem, Nat.reduceEqDiff, Nat.reduceAdd, Nat.reduceLeDiff, reduceCtorEq, Int.reduceLT, Int.reduceLE, Int.reduceNeg, Int.reduceSub, Int.reduceAdd, Int.reduceToNat, ↓reduceIte, wrap_in]
  refine ⟨fun hn => absurd hn (by omega), fun _ => ?_⟩
  refine ⟨fun hn => ?_, fun hn_Value => ?_⟩
  · rw [szR_neg (by omega)]; exact resolve_val _ _
  try simp (disch := omega) only [wrap_in]
  rw [szR_pos (by omega), hsz]
  have hfin : l - ((ByteArray.size x.Name + (szList ByteArray.size) x.Subs + ByteArray.size x.Value : Nat) : Int) = l - ByteArray.size x.Name - (szList ByteArray.size) x.Subs - ByteArray.size x.Value := by omega
  rw [hfin]; exact resolve_val _ _

theorem toEvent_ok (x : GEvent) (hb : GEvent.sz x ≤ 1048576) (h : List Row) : PureCall Tryz.prog 28 [.agg (GEvent.cells x)] h (.agg (GEvent.cells x)) := by
  have hsz : GEvent.sz x = ByteArray.size x.Name + (szList ByteArray.size) x.Subs + ByteArray.size x.Value := rfl
  refine pure_fn mixed Tryz.func28 low_laws_toEvent rfl rfl ?_ h
  simp (disch := omega) only [lf_laws_toEvent, c_laws_toEvent, GEvent.cells, Ex_cond, go_sem, Nat.reduceEqDiff, Nat.reduceAdd, Nat.reduceLeDiff, reduceCtorEq, Int.reduceLT, Int.reduceLE, Int.reduceNeg, Int.reduceSub, Int.reduceAdd, Int.reduceToNat, ↓reduceIte, post_cell]
  refine PureCall.call (toStringS_ok x.Subs (by omega) _) ?_
  simp (disch := omega) only [Ex_cond, go_sem, Nat.reduceEqDiff, Nat.reduceAdd, Nat.reduceLeDiff, reduceCtorEq, Int.reduceLT, Int.reduceLE, Int.reduceNeg, Int.reduceSub, Int.reduceAdd, Int.reduceToNat, ↓reduceIte, post_cell]
  exact resolve_agg _ _ rfl

theorem eqEvent_ok (x : GEvent) (hb : GEvent.sz x ≤ 1048576) (h : List Row) : PureCall Tryz.prog 30 [.agg (GEvent.cells x), .agg (GEvent.cells x)] h (.val (.bool true)) := by
  have hsz : GEvent.sz x = ByteArray.size x.Name + (szList ByteArray.size) x.Subs + ByteArray.size x.Value := rfl
  refine pure_fn mixed Tryz.func30 low_laws_eqEvent rfl rfl ?_ h
  simp (disch := omega) only [lf_laws_eqEvent, c_laws_eqEvent, GEvent.cells, Ex_cond, go_sem, Nat.reduceEqDiff, Nat.reduceAdd, Nat.reduceLeDiff, reduceCtorEq, Int.reduceLT, Int.reduceLE, Int.reduceNeg, Int.reduceSub, Int.reduceAdd, Int.reduceToNat, ↓reduceIte]
  refine PureCall.call (eqStringS_ok x.Subs (by omega) _) ?_
  simp (disch := omega) only [Ex_cond, go_sem, Nat.reduceEqDiff, Nat.reduceAdd, Nat.reduceLeDiff, reduceCtorEq, Int.reduceLT, Int.reduceLE, Int.reduceNeg, Int.reduceSub, Int.reduceAdd, Int.reduceToNat, ↓reduceIte]
  exact resolve_val _ _

theorem szDoing_ok (x : GDoing) (l : Int) (h0 : 0 ≤ l) (h1 : l ≤ 1048576) (hw : GDoing.wf x) (h : List Row) : PureCall Tryz.prog 83 [.agg (GDoing.cells x), .val (.int .i64 l)] h (.val (.int .i64 (szR (GDoing.sz x) l))) := by
  obtain ⟨w_Job, w_Event, _⟩ := hw
  have hsz : GDoing.sz x = GEvent.sz x.Event := rfl
  refine pure_fn mixed Tryz.func83 low_laws_szDoing rfl rfl ?_ h
  simp (disch := omega) only [lf_laws_szDoing, c_laws_szDoing, GDoing.cells, Ex_cond, go_sem, Nat.reduceEqDiff, Nat.reduceAdd, Nat.reduceLeDiff, reduceCtorEq, Int.reduceLT, Int.reduceLE, Int.reduceNeg, Int.reduceSub, Int.reduceAdd, Int.reduceToNat, ↓reduceIte, wrap_in]
  refine PureCall.call (szEvent_ok x.Event (l) (by omega) (by omega) w_Event _) ?_
  by_cases hn_Event : (GEvent.sz x.Event : Int) ≤ l
  case neg =>
    rw [szR_neg (n := GEvent.sz x.Event) (l := l) (by omega)]
    simp (disch := omega) only [Ex_cond, go_sem, Nat.reduceEqDiff, Nat.reduceAdd, Nat.reduceLeDiff, reduceCtorEq, Int.reduceLT, Int.reduceLE, Int.reduceNeg, Int.reduceSub, Int.reduceAdd, Int.reduceToNat, ↓reduceIte, wrap_in]
    rw [szR_neg (by omega)]; exact resolve_val _ _
  rw [szR_pos (n := GEvent.sz x.Event) (l := l) hn_Event]
  simp (disch := omega) only [Ex_cond, go_sem, Nat.reduceEqDiff, Nat.reduceAdd, Nat.reduceLeDiff, reduceCtorEq, Int.reduceLT, Int.reduceLE, Int.reduceNeg, Int.reduceSub, Int.reduceAdd, Int.reduceToNat, ↓reduceIte, wrap_in]
  refine ⟨fun hn => absurd hn (by omega), fun _ => ?_⟩
  rw [szR_pos (by omega), hsz]
  have hfin : l - ((GEvent.sz x.Event : Nat) : Int) = l - GEvent.sz x.Event := by omega
  rw [hfin]; exact resolve_val _ _

theorem toDoing_ok (x : GDoing) (hb : GDoing.sz x ≤ 1048576) (h : List Row) : PureCall Tryz.prog 84 [.agg (GDoing.cells x)] h (.agg (GDoing.cells x)) := by
  have hsz : GDoing.sz x = GEvent.sz x.Event := rfl
  refine pure_fn mixed Tryz.func84 low_laws_toDoing rfl rfl ?_ h
  simp (disch := omega) only [lf_laws_toDoing, c_laws_toDoing, GDoing.cells, Ex_cond, go_sem, Nat.reduceEqDiff, Nat.reduceAdd, Nat.reduceLeDiff, reduceCtorEq, Int.reduceLT, Int.reduceLE, Int.reduceNeg, Int.reduceSub, Int.reduceAdd, Int.reduceToNat, ↓reduceIte, post_cell]
  refine PureCall.call (toEvent_ok x.Event (by omega) _) ?_
  simp (disch := omega) only [GEvent.cells, Ex_cond, go_sem, Nat.reduceEqDiff, Nat.reduceAdd, Nat.reduceLeDiff, reduceCtorEq, Int.reduceLT, Int.reduceLE, Int.reduceNeg, Int.reduceSub, Int.reduceAdd, Int.reduceToNat, ↓reduceIte, post_cell]
  exact resolve_agg _ _ rfl

theorem eqDoing_ok (x : GDoing) (hb : GDoing.sz x ≤ 1048576) (h : List Row) : PureCall Tryz.prog 87 [.agg (GDoing.cells x), .agg (GDoing.cells x)] h (.val (.bool true)) := by
  have hsz : GDoing.sz x = GEvent.sz x.Event := rfl
  refine pure_fn mixed Tryz.func87 low_laws_eqDoing rfl rfl ?_ h
  simp (disch := omega) only [lf_laws_eqDoing, c_laws_eqDoing, GDoing.cells, Ex_cond, go_sem, Nat.reduceEqDiff, Nat.reduceAdd, Nat.reduceLeDiff, reduceCtorEq, Int.reduceLT, Int.reduceLE, Int.reduceNeg, Int.reduceSub, Int.reduceAdd, Int.reduceToNat, ↓reduceIte]
  refine PureCall.call (eqEvent_ok x.Event (by omega) _) ?_
  simp (disch := omega) only [GEvent.cells, Ex_cond, go_sem, Nat.reduceEqDiff, Nat.reduceAdd, Nat.reduceLeDiff, reduceCtorEq, Int.reduceLT, Int.reduceLE, Int.reduceNeg, Int.reduceSub, Int.reduceAdd, Int.reduceToNat, ↓reduceIte]
  exact resolve_val _ _

theorem szDoingS_ok (xs : List GDoing) (l : Int) (h0 : 0 ≤ l) (h1 : l ≤ 1048576) (hw : wfList GDoing.wf xs) (h : List Row) : PureCall Tryz.prog 33 [.list 0 6 (xs.map GDoing.cells), .val (.int .i64 l)] h (.val (.int .i64 (szR (szList GDoing.sz xs) l))) := by
  obtain ⟨hx, hs⟩ := hw
  refine pure_fn mixed Tryz.func33 low_laws_szDoingS rfl rfl ?_ h
  simp (disch := omega) only [lf_laws_szDoingS, c_laws_szDoingS, Ex_cond, go_sem, Nat.reduceEqDiff, Nat.reduceAdd, Nat.reduceLeDiff, reduceCtorEq, Int.reduceLT, Int.reduceLE, Int.reduceNeg, Int.reduceSub, Int.reduceAdd, Int.reduceToNat, ↓reduceIte, wrap_in]
  refine ⟨fun hn => ?_, fun hn => ?_⟩
  · rw [szR_neg (by simp only [szList]; omega)]; exact resolve_val _ _
  · refine Ex_loop (fun n t h => ∃ (k : Nat) (m : Int), t 0 = .list 0 6 (xs.map GDoing.cells) ∧ t 5 = .val (.int .i64 k) ∧ t 1 = .val (.int .i64 m) ∧ h = [] ∧ n = xs.length - k ∧ k ≤ xs.length ∧ 0 ≤ m ∧ m ≤ 1048576 ∧ szR (szList GDoing.sz xs) l = szR (sumOf GDoing.sz (xs.drop k)) m) xs.length ?_ ?_
    · exact ⟨0, l - xs.length, rfl, rfl, rfl, rfl, rfl, Nat.zero_le _, by omega, by omega, szR_sub (by omega)⟩
    · rintro J hJ n t h ⟨k, m, t0, t5, t1, rfl, rfl, hk, hm0, hm1, hS⟩
      by_cases hlt : k < xs.length
      · have hd := sumOf_drop GDoing.sz xs k hlt
        have hwk := hs _ (List.getElem_mem hlt)
        rw [hd] at hS
        simp (disch := omega) only [t0, t5, t1, hlt, GDoing.cells, Ex_cond, go_sem, Nat.reduceEqDiff, Nat.reduceAdd, Nat.reduceLeDiff, reduceCtorEq, Int.reduceLT, Int.reduceLE, Int.reduceNeg, Int.reduceSub, Int.reduceAdd, Int.reduceToNat, ↓reduceIte, wrap_in]
        refine PureCall.call (szDoing_ok xs[k] m hm0 hm1 hwk []) ?_
        by_cases hc : (GDoing.sz xs[k] : Int) ≤ m
        · rw [szR_pos (n := GDoing.sz xs[k]) (l := m) hc]
          simp (disch := omega) only [t0, t5, t1, Ex_cond, go_sem, Nat.reduceEqDiff, Nat.reduceAdd, Nat.reduceLeDiff, reduceCtorEq, Int.reduceLT, Int.reduceLE, Int.reduceNeg, Int.reduceSub, Int.reduceAdd, Int.reduceToNat, ↓reduceIte, wrap_in]
          refine ⟨fun hn2 => absurd hn2 (by omega), fun _ => ?_⟩
          exact ⟨xs.length - (k + 1), by omega, hJ _ _ _ ⟨k + 1, m - GDoing.sz xs[k], by simp [upd, t0], by simp [upd], by simp [upd], rfl, rfl, by omega, by omega, by omega, by rw [hS, szR_sub (by omega)]⟩⟩
        · rw [szR_neg (n := GDoing.sz xs[k]) (l := m) (by omega)]
          simp (disch := omega) only [t0, t5, t1, Ex_cond, go_sem, Nat.reduceEqDiff, Nat.reduceAdd, Nat.reduceLeDiff, reduceCtorEq, Int.reduceLT, Int.reduceLE, Int.reduceNeg, Int.reduceSub, Int.reduceAdd, Int.reduceToNat, ↓reduceIte, wrap_in]
          rw [hS, szR_neg (by omega)]; exact resolve_val _ _
      · simp (disch := omega) only [t0, t5, t1, hlt, Ex_cond, go_sem, Nat.reduceEqDiff, Nat.reduceAdd, Nat.reduceLeDiff, reduceCtorEq, Int.reduceLT, Int.reduceLE, Int.reduceNeg, Int.reduceSub, Int.reduceAdd, Int.reduceToNat, ↓reduceIte]
        rw [hS, List.drop_eq_nil_of_le (by omega), szR_pos (by simp only [sumOf]; omega)]
        simp only [sumOf, Int.natCast_zero, Int.sub_zero]
        exact resolve_val _ _

theorem toDoingS_ok (xs : List GDoing) (hb : (szList GDoing.sz) xs ≤ 1048576) (h : List Row) : PureCall Tryz.prog 35 [.list 0 6 (xs.map GDoing.cells)] h (.list 0 6 (xs.map GDoing.cells)) := by
  have hx := Nat.le_trans (szList_length (f := GDoing.sz) (xs := xs)) hb
  refine pure_fn mixed Tryz.func35 low_laws_toDoingS rfl rfl ?_ h
  simp (disch := omega) only [lf_laws_toDoingS, c_laws_toDoingS, Ex_cond, go_sem, Nat.reduceEqDiff, Nat.reduceAdd, Nat.reduceLeDiff, reduceCtorEq, Int.reduceLT, Int.reduceLE, Int.reduceNeg, Int.reduceSub, Int.reduceAdd, Int.reduceToNat, ↓reduceIte, wrap_in]
  refine ⟨by omega, by omega, ?_⟩
  refine Ex_loop (fun n t h => ∃ k : Nat, t 0 = .list 0 6 (xs.map GDoing.cells) ∧ t 3 = .own 0 xs.length ∧ t 4 = .val (.int .i64 k) ∧ h = [⟨111, 6, fillTo (xs.map GDoing.cells) [.val (.int .i64 0), .val (.int .i64 0), .val (.string ⟨#[]⟩), .val (.slice none 0 0), .val (.string ⟨#[]⟩), .val (.int .i64 0)] k⟩] ∧ n = xs.length - k ∧ k ≤ xs.length) xs.length ?_ ?_
  · exact ⟨0, rfl, rfl, rfl, by rw [fillTo_zero]; simp, rfl, Nat.zero_le _⟩
  · rintro J hJ n t h ⟨k, t0, t3, t4, rfl, rfl, hk⟩
    have fl : (fillTo (xs.map GDoing.cells) [.val (.int .i64 0), .val (.int .i64 0), .val (.string ⟨#[]⟩), .val (.slice none 0 0), .val (.string ⟨#[]⟩), .val (.int .i64 0)] k).length = xs.length := by rw [fillTo_length _ _ (by simpa using hk)]; simp
    by_cases hlt : k < xs.length
    · have fg : (fillTo (xs.map GDoing.cells) [.val (.int .i64 0), .val (.int .i64 0), .val (.string ⟨#[]⟩), .val (.slice none 0 0), .val (.string ⟨#[]⟩), .val (.int .i64 0)] k)[k]? = some [.val (.int .i64 0), .val (.int .i64 0), .val (.string ⟨#[]⟩), .val (.slice none 0 0), .val (.string ⟨#[]⟩), .val (.int .i64 0)] := fillTo_get _ _ (by simpa using hlt)
      have fs := fillTo_set' (xs.map GDoing.cells) [.val (.int .i64 0), .val (.int .i64 0), .val (.string ⟨#[]⟩), .val (.slice none 0 0), .val (.string ⟨#[]⟩), .val (.int .i64 0)] (GDoing.cells xs[k]) (k := k) (by rw [List.getElem?_map, List.getElem?_eq_getElem hlt]; rfl)
      simp only [GDoing.cells] at fs
      simp (disch := omega) only [t0, t3, t4, hlt, fl, fg, GDoing.cells, Ex_cond, go_sem, Nat.reduceEqDiff, Nat.reduceAdd, Nat.reduceLeDiff, reduceCtorEq, Int.reduceLT, Int.reduceLE, Int.reduceNeg, Int.reduceSub, Int.reduceAdd, Int.reduceToNat, ↓reduceIte, wrap_in]
      refine PureCall.call (toDoing_ok xs[k] (by have := szList_mem (f := GDoing.sz) (List.getElem_mem hlt); omega) _) ?_
      simp (disch := omega) only [t0, t3, t4, hlt, fl, fg, fs, GDoing.cells, Ex_cond, go_sem, Nat.reduceEqDiff, Nat.reduceAdd, Nat.reduceLeDiff, reduceCtorEq, Int.reduceLT, Int.reduceLE, Int.reduceNeg, Int.reduceSub, Int.reduceAdd, Int.reduceToNat, ↓reduceIte, wrap_in]
      exact ⟨xs.length - (k + 1), by omega, hJ _ _ _ ⟨k + 1, by simp [upd, t0], by simp [upd, t3], by simp [upd], rfl, rfl, by omega⟩⟩
    · simp (disch := omega) only [t0, t3, t4, hlt, fl, Ex_cond, go_sem, Nat.reduceEqDiff, Nat.reduceAdd, Nat.reduceLeDiff, reduceCtorEq, Int.reduceLT, Int.reduceLE, Int.reduceNeg, Int.reduceSub, Int.reduceAdd, Int.reduceToNat, ↓reduceIte, wrap_in]
      have ff : fillTo (xs.map GDoing.cells) [.val (.int .i64 0), .val (.int .i64 0), .val (.string ⟨#[]⟩), .val (.slice none 0 0), .val (.string ⟨#[]⟩), .val (.int .i64 0)] k = xs.map GDoing.cells := fillTo_all _ _ (by simp; omega)
      rw [ff]
      exact resolve_own (r := ⟨111, 6, xs.map GDoing.cells⟩) rfl (by simp) (by intro e he; obtain ⟨x, _, q⟩ := List.mem_map.1 he; subst q; rfl)

theorem eqDoingS_ok (xs : List GDoing) (hb : (szList GDoing.sz) xs ≤ 1048576) (h : List Row) : PureCall Tryz.prog 37 [.list 0 6 (xs.map GDoing.cells), .list 0 6 (xs.map GDoing.cells)] h (.val (.bool true)) := by
  have hx := Nat.le_trans (szList_length (f := GDoing.sz) (xs := xs)) hb
  refine pure_fn mixed Tryz.func37 low_laws_eqDoingS rfl rfl ?_ h
  simp (disch := omega) only [lf_laws_eqDoingS, c_laws_eqDoingS, Ex_cond, go_sem, Nat.reduceEqDiff, Nat.reduceAdd, Nat.reduceLeDiff, reduceCtorEq, Int.reduceLT, Int.reduceLE, Int.reduceNeg, Int.reduceSub, Int.reduceAdd, Int.reduceToNat, ↓reduceIte, wrap_in]
  refine Ex_loop (fun n t h => ∃ k : Nat, t 0 = .list 0 6 (xs.map GDoing.cells) ∧ t 1 = .list 0 6 (xs.map GDoing.cells) ∧ t 5 = .val (.int .i64 k) ∧ h = [] ∧ n = xs.length - k ∧ k ≤ xs.length) xs.length ?_ ?_
  · exact ⟨0, rfl, rfl, rfl, rfl, rfl, Nat.zero_le _⟩
  · rintro J hJ n t h ⟨k, t0, t1, t5, rfl, rfl, hk⟩
    by_cases hlt : k < xs.length
    · simp (disch := omega) only [t0, t1, t5, hlt, GDoing.cells, Ex_cond, go_sem, Nat.reduceEqDiff, Nat.reduceAdd, Nat.reduceLeDiff, reduceCtorEq, Int.reduceLT, Int.reduceLE, Int.reduceNeg, Int.reduceSub, Int.reduceAdd, Int.reduceToNat, ↓reduceIte, wrap_in]
      refine PureCall.q (eqDoing_ok xs[k] (by have := szList_mem (f := GDoing.sz) (List.getElem_mem hlt); omega) _) ?_
      simp (disch := omega) only [t0, t1, t5, hlt, GDoing.cells, Ex_cond, go_sem, Nat.reduceEqDiff, Nat.reduceAdd, Nat.reduceLeDiff, reduceCtorEq, Int.reduceLT, Int.reduceLE, Int.reduceNeg, Int.reduceSub, Int.reduceAdd, Int.reduceToNat, ↓reduceIte, wrap_in]
      exact ⟨xs.length - (k + 1), by omega, hJ _ _ _ ⟨k + 1, by simp [upd, t0], by simp [upd, t1], by simp [upd], rfl, rfl, by omega⟩⟩
    · simp (disch := omega) only [t0, t1, t5, hlt, Ex_cond, go_sem, Nat.reduceEqDiff, Nat.reduceAdd, Nat.reduceLeDiff, reduceCtorEq, Int.reduceLT, Int.reduceLE, Int.reduceNeg, Int.reduceSub, Int.reduceAdd, Int.reduceToNat, ↓reduceIte, wrap_in]
      exact resolve_val _ _

theorem szEventS_ok (xs : List GEvent) (l : Int) (h0 : 0 ≤ l) (h1 : l ≤ 1048576) (hw : wfList GEvent.wf xs) (h : List Row) : PureCall Tryz.prog 88 [.list 0 5 (xs.map GEvent.cells), .val (.int .i64 l)] h (.val (.int .i64 (szR (szList GEvent.sz xs) l))) := by
  obtain ⟨hx, hs⟩ := hw
  refine pure_fn mixed Tryz.func88 low_laws_szEventS rfl rfl ?_ h
  simp (disch := omega) only [lf_laws_szEventS, c_laws_szEventS, Ex_cond, go_sem, Nat.reduceEqDiff, Nat.reduceAdd, Nat.reduceLeDiff, reduceCtorEq, Int.reduceLT, Int.reduceLE, Int.reduceNeg, Int.reduceSub, Int.reduceAdd, Int.reduceToNat, ↓reduceIte, wrap_in]
  refine ⟨fun hn => ?_, fun hn => ?_⟩
  · rw [szR_neg (by simp only [szList]; omega)]; exact resolve_val _ _
  · refine Ex_loop (fun n t h => ∃ (k : Nat) (m : Int), t 0 = .list 0 5 (xs.map GEvent.cells) ∧ t 5 = .val (.int .i64 k) ∧ t 1 = .val (.int .i64 m) ∧ h = [] ∧ n = xs.length - k ∧ k ≤ xs.length ∧ 0 ≤ m ∧ m ≤ 1048576 ∧ szR (szList GEvent.sz xs) l = szR (sumOf GEvent.sz (xs.drop k)) m) xs.length ?_ ?_
    · exact ⟨0, l - xs.length, rfl, rfl, rfl, rfl, rfl, Nat.zero_le _, by omega, by omega, szR_sub (by omega)⟩
    · rintro J hJ n t h ⟨k, m, t0, t5, t1, rfl, rfl, hk, hm0, hm1, hS⟩
      by_cases hlt : k < xs.length
      · have hd := sumOf_drop GEvent.sz xs k hlt
        have hwk := hs _ (List.getElem_mem hlt)
        rw [hd] at hS
        simp (disch := omega) only [t0, t5, t1, hlt, GEvent.cells, Ex_cond, go_sem, Nat.reduceEqDiff, Nat.reduceAdd, Nat.reduceLeDiff, reduceCtorEq, Int.reduceLT, Int.reduceLE, Int.reduceNeg, Int.reduceSub, Int.reduceAdd, Int.reduceToNat, ↓reduceIte, wrap_in]
        refine PureCall.call (szEvent_ok xs[k] m hm0 hm1 hwk []) ?_
        by_cases hc : (GEvent.sz xs[k] : Int) ≤ m
        · rw [szR_pos (n := GEvent.sz xs[k]) (l := m) hc]
          simp (disch := omega) only [t0, t5, t1, Ex_cond, go_sem, Nat.reduceEqDiff, Nat.reduceAdd, Nat.reduceLeDiff, reduceCtorEq, Int.reduceLT, Int.reduceLE, Int.reduceNeg, Int.reduceSub, Int.reduceAdd, Int.reduceToNat, ↓reduceIte, wrap_in]
          refine ⟨fun hn2 => absurd hn2 (by omega), fun _ => ?_⟩
          exact ⟨xs.length - (k + 1), by omega, hJ _ _ _ ⟨k + 1, m - GEvent.sz xs[k], by simp [upd, t0], by simp [upd], by simp [upd], rfl, rfl, by omega, by omega, by omega, by rw [hS, szR_sub (by omega)]⟩⟩
        · rw [szR_neg (n := GEvent.sz xs[k]) (l := m) (by omega)]
          simp (disch := omega) only [t0, t5, t1, Ex_cond, go_sem, Nat.reduceEqDiff, Nat.reduceAdd, Nat.reduceLeDiff, reduceCtorEq, Int.reduceLT, Int.reduceLE, Int.reduceNeg, Int.reduceSub, Int.reduceAdd, Int.reduceToNat, ↓reduceIte, wrap_in]
          rw [hS, szR_neg (by omega)]; exact resolve_val _ _
      · simp (disch := omega) only [t0, t5, t1, hlt, Ex_cond, go_sem, Nat.reduceEqDiff, Nat.reduceAdd, Nat.reduceLeDiff, reduceCtorEq, Int.reduceLT, Int.reduceLE, Int.reduceNeg, Int.reduceSub, Int.reduceAdd, Int.reduceToNat, ↓reduceIte]
        rw [hS, List.drop_eq_nil_of_le (by omega), szR_pos (by simp only [sumOf]; omega)]
        simp only [sumOf, Int.natCast_zero, Int.sub_zero]
        exact resolve_val _ _

theorem toEventS_ok (xs : List GEvent) (hb : (szList GEvent.sz) xs ≤ 1048576) (h : List Row) : PureCall Tryz.prog 90 [.list 0 5 (xs.map GEvent.cells)] h (.list 0 5 (xs.map GEvent.cells)) := by
  have hx := Nat.le_trans (szList_length (f := GEvent.sz) (xs := xs)) hb
  refine pure_fn mixed Tryz.func90 low_laws_toEventS rfl rfl ?_ h
  simp (disch := omega) only [lf_laws_toEventS, c_laws_toEventS, Ex_cond, go_sem, Nat.reduceEqDiff, Nat.reduceAdd, Nat.reduceLeDiff, reduceCtorEq, Int.reduceLT, Int.reduceLE, Int.reduceNeg, Int.reduceSub, Int.reduceAdd, Int.reduceToNat, ↓reduceIte, wrap_in]
  refine ⟨by omega, by omega, ?_⟩
  refine Ex_loop (fun n t h => ∃ k : Nat, t 0 = .list 0 5 (xs.map GEvent.cells) ∧ t 3 = .own 0 xs.length ∧ t 4 = .val (.int .i64 k) ∧ h = [⟨46, 5, fillTo (xs.map GEvent.cells) [.val (.int .i64 0), .val (.string ⟨#[]⟩), .val (.slice none 0 0), .val (.string ⟨#[]⟩), .val (.int .i64 0)] k⟩] ∧ n = xs.length - k ∧ k ≤ xs.length) xs.length ?_ ?_
  · exact ⟨0, rfl, rfl, rfl, by rw [fillTo_zero]; simp, rfl, Nat.zero_le _⟩
  · rintro J hJ n t h ⟨k, t0, t3, t4, rfl, rfl, hk⟩
    have fl : (fillTo (xs.map GEvent.cells) [.val (.int .i64 0), .val (.string ⟨#[]⟩), .val (.slice none 0 0), .val (.string ⟨#[]⟩), .val (.int .i64 0)] k).length = xs.length := by rw [fillTo_length _ _ (by simpa using hk)]; simp
    by_cases hlt : k < xs.length
    · have fg : (fillTo (xs.map GEvent.cells) [.val (.int .i64 0), .val (.string ⟨#[]⟩), .val (.slice none 0 0), .val (.string ⟨#[]⟩), .val (.int .i64 0)] k)[k]? = some [.val (.int .i64 0), .val (.string ⟨#[]⟩), .val (.slice none 0 0), .val (.string ⟨#[]⟩), .val (.int .i64 0)] := fillTo_get _ _ (by simpa using hlt)
      have fs := fillTo_set' (xs.map GEvent.cells) [.val (.int .i64 0), .val (.string ⟨#[]⟩), .val (.slice none 0 0), .val (.string ⟨#[]⟩), .val (.int .i64 0)] (GEvent.cells xs[k]) (k := k) (by rw [List.getElem?_map, List.getElem?_eq_getElem hlt]; rfl)
      simp only [GEvent.cells] at fs
      simp (disch := omega) only [t0, t3, t4, hlt, fl, fg, GEvent.cells, Ex_cond, go_sem, Nat.reduceEqDiff, Nat.reduceAdd, Nat.reduceLeDiff, reduceCtorEq, Int.reduceLT, Int.reduceLE, Int.reduceNeg, Int.reduceSub, Int.reduceAdd, Int.reduceToNat, ↓reduceIte, wrap_in]
      refine PureCall.call (toEvent_ok xs[k] (by have := szList_mem (f := GEvent.sz) (List.getElem_mem hlt); omega) _) ?_
      simp (disch := omega) only [t0, t3, t4, hlt, fl, fg, fs, GEvent.cells, Ex_cond, go_sem, Nat.reduceEqDiff, Nat.reduceAdd, Nat.reduceLeDiff, reduceCtorEq, Int.reduceLT, Int.reduceLE, Int.reduceNeg, Int.reduceSub, Int.reduceAdd, Int.reduceToNat, ↓reduceIte, wrap_in]
      exact ⟨xs.length - (k + 1), by omega, hJ _ _ _ ⟨k + 1, by simp [upd, t0], by simp [upd, t3], by simp [upd], rfl, rfl, by omega⟩⟩
    · simp (disch := omega) only [t0, t3, t4, hlt, fl, Ex_cond, go_sem, Nat.reduceEqDiff, Nat.reduceAdd, Nat.reduceLeDiff, reduceCtorEq, Int.reduceLT, Int.reduceLE, Int.reduceNeg, Int.reduceSub, Int.reduceAdd, Int.reduceToNat, ↓reduceIte, wrap_in]
      have ff : fillTo (xs.map GEvent.cells) [.val (.int .i64 0), .val (.string ⟨#[]⟩), .val (.slice none 0 0), .val (.string ⟨#[]⟩), .val (.int .i64 0)] k = xs.map GEvent.cells := fillTo_all _ _ (by simp; omega)
      rw [ff]
      exact resolve_own (r := ⟨46, 5, xs.map GEvent.cells⟩) rfl (by simp) (by intro e he; obtain ⟨x, _, q⟩ := List.mem_map.1 he; subst q; rfl)

theorem eqEventS_ok (xs : List GEvent) (hb : (szList GEvent.sz) xs ≤ 1048576) (h : List Row) : PureCall Tryz.prog 92 [.list 0 5 (xs.map GEvent.cells), .list 0 5 (xs.map GEvent.cells)] h (.val (.bool true)) := by
  have hx := Nat.le_trans (szList_length (f := GEvent.sz) (xs := xs)) hb
  refine pure_fn mixed Tryz.func92 low_laws_eqEventS rfl rfl ?_ h
  simp (disch := omega) only [lf_laws_eqEventS, c_laws_eqEventS, Ex_cond, go_sem, Nat.reduceEqDiff, Nat.reduceAdd, Nat.reduceLeDiff, reduceCtorEq, Int.reduceLT, Int.reduceLE, Int.reduceNeg, Int.reduceSub, Int.reduceAdd, Int.reduceToNat, ↓reduceIte, wrap_in]
  refine Ex_loop (fun n t h => ∃ k : Nat, t 0 = .list 0 5 (xs.map GEvent.cells) ∧ t 1 = .list 0 5 (xs.map GEvent.cells) ∧ t 5 = .val (.int .i64 k) ∧ h = [] ∧ n = xs.length - k ∧ k ≤ xs.length) xs.length ?_ ?_
  · exact ⟨0, rfl, rfl, rfl, rfl, rfl, Nat.zero_le _⟩
  · rintro J hJ n t h ⟨k, t0, t1, t5, rfl, rfl, hk⟩
    by_cases hlt : k < xs.length
    · simp (disch := omega) only [t0, t1, t5, hlt, GEvent.cells, Ex_cond, go_sem, Nat.reduceEqDiff, Nat.reduceAdd, Nat.reduceLeDiff, reduceCtorEq, Int.reduceLT, Int.reduceLE, Int.reduceNeg, Int.reduceSub, Int.reduceAdd, Int.reduceToNat, ↓reduceIte, wrap_in]
      refine PureCall.q (eqEvent_ok xs[k] (by have := szList_mem (f := GEvent.sz) (List.getElem_mem hlt); omega) _) ?_
      simp (disch := omega) only [t0, t1, t5, hlt, GEvent.cells, Ex_cond, go_sem, Nat.reduceEqDiff, Nat.reduceAdd, Nat.reduceLeDiff, reduceCtorEq, Int.reduceLT, Int.reduceLE, Int.reduceNeg, Int.reduceSub, Int.reduceAdd, Int.reduceToNat, ↓reduceIte, wrap_in]
      exact ⟨xs.length - (k + 1), by omega, hJ _ _ _ ⟨k + 1, by simp [upd, t0], by simp [upd, t1], by simp [upd], rfl, rfl, by omega⟩⟩
    · simp (disch := omega) only [t0, t1, t5, hlt, Ex_cond, go_sem, Nat.reduceEqDiff, Nat.reduceAdd, Nat.reduceLeDiff, reduceCtorEq, Int.reduceLT, Int.reduceLE, Int.reduceNeg, Int.reduceSub, Int.reduceAdd, Int.reduceToNat, ↓reduceIte, wrap_in]
      exact resolve_val _ _

theorem szBatch_ok (x : GBatch) (l : Int) (h0 : 0 ≤ l) (h1 : l ≤ 1048576) (hw : GBatch.wf x) (h : List Row) : PureCall Tryz.prog 38 [.agg (GBatch.cells x), .val (.int .i64 l)] h (.val (.int .i64 (szR (GBatch.sz x) l))) := by
  obtain ⟨w_Job, w_Events, _⟩ := hw
  have hsz : GBatch.sz x = (szList GEvent.sz) x.Events := rfl
  refine pure_fn mixed Tryz.func38 low_laws_szBatch rfl rfl ?_ h
  simp (disch := omega) only [lf_laws_szBatch, c_laws_szBatch, GBatch.cells, Ex_cond, go_sem, Nat.reduceEqDiff, Nat.reduceAdd, Nat.reduceLeDiff, reduceCtorEq, Int.reduceLT, Int.reduceLE, Int.reduceNeg, Int.reduceSub, Int.reduceAdd, Int.reduceToNat, ↓reduceIte, wrap_in]
  refine PureCall.call (szEventS_ok x.Events (l) (by omega) (by omega) w_Events _) ?_
  by_cases hn_Events : ((szList GEvent.sz) x.Events : Int) ≤ l
  case neg =>
    rw [szR_neg (n := (szList GEvent.sz) x.Events) (l := l) (by omega)]
    simp (disch := omega) only [Ex_cond, go_sem, Nat.reduceEqDiff, Nat.reduceAdd, Nat.reduceLeDiff, reduceCtorEq, Int.reduceLT, Int.reduceLE, Int.reduceNeg, Int.reduceSub, Int.reduceAdd, Int.reduceToNat, ↓reduceIte, wrap_in]
    rw [szR_neg (by omega)]; exact resolve_val _ _
  rw [szR_pos (n := (szList GEvent.sz) x.Events) (l := l) hn_Events]
  simp (disch := omega) only [Ex_cond, go_sem, Nat.reduceEqDiff, Nat.reduceAdd, Nat.reduceLeDiff, reduceCtorEq, Int.reduceLT, Int.reduceLE, Int.reduceNeg, Int.reduceSub, Int.reduceAdd, Int.reduceToNat, ↓reduceIte, wrap_in]
  refine ⟨fun hn => absurd hn (by omega), fun _ => ?_⟩
  rw [szR_pos (by omega), hsz]
  have hfin : l - (((szList GEvent.sz) x.Events : Nat) : Int) = l - (szList GEvent.sz) x.Events := by omega
  rw [hfin]; exact resolve_val _ _

theorem toBatch_ok (x : GBatch) (hb : GBatch.sz x ≤ 1048576) (h : List Row) : PureCall Tryz.prog 40 [.agg (GBatch.cells x)] h (.agg (GBatch.cells x)) := by
  have hsz : GBatch.sz x = (szList GEvent.sz) x.Events := rfl
  refine pure_fn mixed Tryz.func40 low_laws_toBatch rfl rfl ?_ h
  simp (disch := omega) only [lf_laws_toBatch, c_laws_toBatch, GBatch.cells, Ex_cond, go_sem, Nat.reduceEqDiff, Nat.reduceAdd, Nat.reduceLeDiff, reduceCtorEq, Int.reduceLT, Int.reduceLE, Int.reduceNeg, Int.reduceSub, Int.reduceAdd, Int.reduceToNat, ↓reduceIte, post_cell]
  refine PureCall.call (toEventS_ok x.Events (by omega) _) ?_
  simp (disch := omega) only [Ex_cond, go_sem, Nat.reduceEqDiff, Nat.reduceAdd, Nat.reduceLeDiff, reduceCtorEq, Int.reduceLT, Int.reduceLE, Int.reduceNeg, Int.reduceSub, Int.reduceAdd, Int.reduceToNat, ↓reduceIte, post_cell]
  exact resolve_agg _ _ rfl

theorem eqBatch_ok (x : GBatch) (hb : GBatch.sz x ≤ 1048576) (h : List Row) : PureCall Tryz.prog 42 [.agg (GBatch.cells x), .agg (GBatch.cells x)] h (.val (.bool true)) := by
  have hsz : GBatch.sz x = (szList GEvent.sz) x.Events := rfl
  refine pure_fn mixed Tryz.func42 low_laws_eqBatch rfl rfl ?_ h
  simp (disch := omega) only [lf_laws_eqBatch, c_laws_eqBatch, GBatch.cells, Ex_cond, go_sem, Nat.reduceEqDiff, Nat.reduceAdd, Nat.reduceLeDiff, reduceCtorEq, Int.reduceLT, Int.reduceLE, Int.reduceNeg, Int.reduceSub, Int.reduceAdd, Int.reduceToNat, ↓reduceIte]
  refine PureCall.call (eqEventS_ok x.Events (by omega) _) ?_
  simp (disch := omega) only [Ex_cond, go_sem, Nat.reduceEqDiff, Nat.reduceAdd, Nat.reduceLeDiff, reduceCtorEq, Int.reduceLT, Int.reduceLE, Int.reduceNeg, Int.reduceSub, Int.reduceAdd, Int.reduceToNat, ↓reduceIte]
  exact resolve_val _ _

theorem szTrans_ok (x : GTrans) (l : Int) (h0 : 0 ≤ l) (h1 : l ≤ 1048576) (hw : GTrans.wf x) (h : List Row) : PureCall Tryz.prog 43 [.agg (GTrans.cells x), .val (.int .i64 l)] h (.val (.int .i64 (szR (GTrans.sz x) l))) := by
  obtain ⟨w_Depth, w_Restarts, w_Events, _⟩ := hw
  have hsz : GTrans.sz x = (szList GEvent.sz) x.Events := rfl
  refine pure_fn mixed Tryz.func43 low_laws_szTrans rfl rfl ?_ h
  simp (disch := omega) only [lf_laws_szTrans, c_laws_szTrans, GTrans.cells, Ex_cond, go_sem, Nat.reduceEqDiff, Nat.reduceAdd, Nat.reduceLeDiff, reduceCtorEq, Int.reduceLT, Int.reduceLE, Int.reduceNeg, Int.reduceSub, Int.reduceAdd, Int.reduceToNat, ↓reduceIte, wrap_in]
  refine PureCall.call (szEventS_ok x.Events (l) (by omega) (by omega) w_Events _) ?_
  by_cases hn_Events : ((szList GEvent.sz) x.Events : Int) ≤ l
  case neg =>
    rw [szR_neg (n := (szList GEvent.sz) x.Events) (l := l) (by omega)]
    simp (disch := omega) only [Ex_cond, go_sem, Nat.reduceEqDiff, Nat.reduceAdd, Nat.reduceLeDiff, reduceCtorEq, Int.reduceLT, Int.reduceLE, Int.reduceNeg, Int.reduceSub, Int.reduceAdd, Int.reduceToNat, ↓reduceIte, wrap_in]
    rw [szR_neg (by omega)]; exact resolve_val _ _
  rw [szR_pos (n := (szList GEvent.sz) x.Events) (l := l) hn_Events]
  simp (disch := omega) only [Ex_cond, go_sem, Nat.reduceEqDiff, Nat.reduceAdd, Nat.reduceLeDiff, reduceCtorEq, Int.reduceLT, Int.reduceLE, Int.reduceNeg, Int.reduceSub, Int.reduceAdd, Int.reduceToNat, ↓reduceIte, wrap_in]
  refine ⟨fun hn => absurd hn (by omega), fun _ => ?_⟩
  rw [szR_pos (by omega), hsz]
  have hfin : l - (((szList GEvent.sz) x.Events : Nat) : Int) = l - (szList GEvent.sz) x.Events := by omega
  rw [hfin]; exact resolve_val _ _

theorem toTrans_ok (x : GTrans) (hb : GTrans.sz x ≤ 1048576) (h : List Row) : PureCall Tryz.prog 45 [.agg (GTrans.cells x)] h (.agg (GTrans.cells x)) := by
  have hsz : GTrans.sz x = (szList GEvent.sz) x.Events := rfl
  refine pure_fn mixed Tryz.func45 low_laws_toTrans rfl rfl ?_ h
  simp (disch := omega) only [lf_laws_toTrans, c_laws_toTrans, GTrans.cells, Ex_cond, go_sem, Nat.reduceEqDiff, Nat.reduceAdd, Nat.reduceLeDiff, reduceCtorEq, Int.reduceLT, Int.reduceLE, Int.reduceNeg, Int.reduceSub, Int.reduceAdd, Int.reduceToNat, ↓reduceIte, post_cell]
  refine PureCall.call (toEventS_ok x.Events (by omega) _) ?_
  simp (disch := omega) only [Ex_cond, go_sem, Nat.reduceEqDiff, Nat.reduceAdd, Nat.reduceLeDiff, reduceCtorEq, Int.reduceLT, Int.reduceLE, Int.reduceNeg, Int.reduceSub, Int.reduceAdd, Int.reduceToNat, ↓reduceIte, post_cell]
  exact resolve_agg _ _ rfl

theorem eqTrans_ok (x : GTrans) (hb : GTrans.sz x ≤ 1048576) (h : List Row) : PureCall Tryz.prog 47 [.agg (GTrans.cells x), .agg (GTrans.cells x)] h (.val (.bool true)) := by
  have hsz : GTrans.sz x = (szList GEvent.sz) x.Events := rfl
  refine pure_fn mixed Tryz.func47 low_laws_eqTrans rfl rfl ?_ h
  simp (disch := omega) only [lf_laws_eqTrans, c_laws_eqTrans, GTrans.cells, Ex_cond, go_sem, Nat.reduceEqDiff, Nat.reduceAdd, Nat.reduceLeDiff, reduceCtorEq, Int.reduceLT, Int.reduceLE, Int.reduceNeg, Int.reduceSub, Int.reduceAdd, Int.reduceToNat, ↓reduceIte]
  refine PureCall.call (eqEventS_ok x.Events (by omega) _) ?_
  simp (disch := omega) only [Ex_cond, go_sem, Nat.reduceEqDiff, Nat.reduceAdd, Nat.reduceLeDiff, reduceCtorEq, Int.reduceLT, Int.reduceLE, Int.reduceNeg, Int.reduceSub, Int.reduceAdd, Int.reduceToNat, ↓reduceIte]
  exact resolve_val _ _

end Go.Proofs.YtikjdgcllflnmaaGreatDoor
