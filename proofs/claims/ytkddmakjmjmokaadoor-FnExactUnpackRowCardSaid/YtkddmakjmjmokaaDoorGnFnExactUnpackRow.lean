/-
  Contracts of functions of this program, over abstract values. Conditions: as each theorem says.
-/
import Derived.Test.YtkddmakjmjmokaaDoorBase
namespace Go.Proofs.YtkddmakjmjmokaaDoor
open Go.AW
set_option linter.unusedVariables false
set_option linter.unusedSimpArgs false



def c_laws_szStringS : LC :=
 .seq (.ops [⟨some 4, none, .mov (.const (.int .i64 0))⟩]) (.seq (.ops [⟨some 6, none, .mov (.tmp 1)⟩, ⟨some 7, none, .mov (.tmp 0)⟩, ⟨some 8, none, .lenSl (.tmp 7)⟩, ⟨some 9, none, .bin .sub false (.tmp 6) (.tmp 8)⟩,
 ⟨some 1, none, .mov (.tmp 9)⟩]) (.seq (.seq (.ops [⟨some 10, none, .mov (.tmp 1)⟩, ⟨some 11, none, .bin .lss false (.tmp 10) (.const (.int .i64 0))⟩]) (.cond (.tmp 11) (.seq (.ops [⟨some 4, none, .mov (.const (.int .i64
 (-1)))⟩]) (.ret)) (.skip))) (.seq (.seq (.ops [⟨some 5, none, .mov (.const (.int .i64 0))⟩]) (.block 0 (.loop (.seq (.seq (.ops [⟨some 12, none, .mov (.tmp 5)⟩, ⟨some 13, none, .mov (.tmp 0)⟩, ⟨some 14, none, .lenSl (.tmp
 13)⟩, ⟨some 15, none, .bin .lss false (.tmp 12) (.tmp 14)⟩]) (.cond (.tmp 15) (.skip) (.exit 0))) (.seq (.block 1 (.seq (.ops [⟨some 18, none, .mov (.tmp 1)⟩, ⟨some 19, none, .mov (.tmp 0)⟩, ⟨some 20, none, .mov (.tmp
 5)⟩, ⟨some 21, none, .indexAddr 1 (.tmp 19) (.tmp 20)⟩, ⟨some 22, none, .load none (.tmp 21)⟩, ⟨some 23, none, .lenStr (.tmp 22)⟩, ⟨some 24, none, .bin .sub false (.tmp 18) (.tmp 23)⟩, ⟨some 1, none, .mov (.tmp 24)⟩])
 (.seq (.ops [⟨some 25, none, .mov (.tmp 1)⟩, ⟨some 26, none, .bin .lss false (.tmp 25) (.const (.int .i64 0))⟩]) (.cond (.tmp 26) (.seq (.ops [⟨some 4, none, .mov (.const (.int .i64 (-1)))⟩]) (.ret)) (.skip))))) (.ops
 [⟨some 16, none, .mov (.tmp 5)⟩, ⟨some 17, none, .bin .add false (.tmp 16) (.const (.int .i64 1))⟩, ⟨some 5, none, .mov (.tmp 17)⟩])))))) (.seq (.ops [⟨some 27, none, .mov (.tmp 1)⟩, ⟨some 4, none, .mov (.tmp 27)⟩])
 (.ret)))))
def lf_laws_szStringS : LF := { np := 2, N := 28, body := c_laws_szStringS, res := [.tmp 4] }
theorem low_laws_szStringS : LowF Tryd.prog Tryd.f13 lf_laws_szStringS := LowF.mk' (by kernel_rfl) (by kernel_rfl) (by kernel_rfl) (by decide)

def c_laws_toStringS : LC :=
 .seq (.ops [⟨some 2, none, .mov (.const (.slice none 0 0))⟩]) (.seq (.ops [⟨some 5, none, .mov (.tmp 0)⟩, ⟨some 6, none, .lenSl (.tmp 5)⟩, ⟨some 7, none, .mkSlice 9 1 16 (.string ⟨#[]⟩) (.tmp 6) (.tmp 6)⟩, ⟨some 3, none,
 .mov (.tmp 7)⟩]) (.seq (.seq (.ops [⟨some 4, none, .mov (.const (.int .i64 0))⟩]) (.block 0 (.loop (.seq (.seq (.ops [⟨some 8, none, .mov (.tmp 4)⟩, ⟨some 9, none, .mov (.tmp 0)⟩, ⟨some 10, none, .lenSl (.tmp 9)⟩, ⟨some
 11, none, .bin .lss false (.tmp 8) (.tmp 10)⟩]) (.cond (.tmp 11) (.skip) (.exit 0))) (.seq (.block 1 (.ops [⟨some 14, none, .mov (.tmp 3)⟩, ⟨some 15, none, .mov (.tmp 4)⟩, ⟨some 16, none, .mov (.tmp 0)⟩, ⟨some 17, none,
 .mov (.tmp 4)⟩, ⟨some 18, none, .indexAddr 1 (.tmp 16) (.tmp 17)⟩, ⟨some 19, none, .load none (.tmp 18)⟩, ⟨some 20, none, .indexAddr 1 (.tmp 14) (.tmp 15)⟩, ⟨none, none, .store 1 (.tmp 20) (.tmp 19)⟩])) (.ops [⟨some 12,
 none, .mov (.tmp 4)⟩, ⟨some 13, none, .bin .add false (.tmp 12) (.const (.int .i64 1))⟩, ⟨some 4, none, .mov (.tmp 13)⟩])))))) (.seq (.ops [⟨some 21, none, .mov (.tmp 3)⟩, ⟨some 2, none, .mov (.tmp 21)⟩]) (.ret))))
def lf_laws_toStringS : LF := { np := 1, N := 22, body := c_laws_toStringS, res := [.tmp 2] }
theorem low_laws_toStringS : LowF Tryd.prog Tryd.f16 lf_laws_toStringS := LowF.mk' (by kernel_rfl) (by kernel_rfl) (by kernel_rfl) (by decide)

def c_laws_eqStringS : LC :=
 .seq (.ops [⟨some 4, none, .mov (.const (.bool false))⟩]) (.seq (.seq (.ops [⟨some 6, none, .mov (.tmp 0)⟩, ⟨some 7, none, .lenSl (.tmp 6)⟩, ⟨some 8, none, .mov (.tmp 1)⟩, ⟨some 9, none, .lenSl (.tmp 8)⟩, ⟨some 10, none,
 .bin .neq false (.tmp 7) (.tmp 9)⟩]) (.cond (.tmp 10) (.seq (.ops [⟨some 4, none, .mov (.const (.bool false))⟩]) (.ret)) (.skip))) (.seq (.seq (.ops [⟨some 5, none, .mov (.const (.int .i64 0))⟩]) (.block 0 (.loop (.seq
 (.seq (.ops [⟨some 11, none, .mov (.tmp 5)⟩, ⟨some 12, none, .mov (.tmp 0)⟩, ⟨some 13, none, .lenSl (.tmp 12)⟩, ⟨some 14, none, .bin .lss false (.tmp 11) (.tmp 13)⟩]) (.cond (.tmp 14) (.skip) (.exit 0))) (.seq (.block 1
 (.seq (.dops [⟨some 17, none, .mov (.tmp 0)⟩, ⟨some 18, none, .mov (.tmp 5)⟩, ⟨some 19, none, .indexAddr 1 (.tmp 17) (.tmp 18)⟩, ⟨some 20, none, .load none (.tmp 19)⟩, ⟨some 21, none, .mov (.tmp 1)⟩, ⟨some 22, none, .mov
 (.tmp 5)⟩, ⟨some 23, none, .indexAddr 1 (.tmp 21) (.tmp 22)⟩, ⟨some 24, none, .load none (.tmp 23)⟩, ⟨some 25, none, .bin .neq false (.tmp 20) (.tmp 24)⟩]) (.cond (.tmp 25) (.seq (.ops [⟨some 4, none, .mov (.const (.bool
 false))⟩]) (.ret)) (.skip)))) (.ops [⟨some 15, none, .mov (.tmp 5)⟩, ⟨some 16, none, .bin .add false (.tmp 15) (.const (.int .i64 1))⟩, ⟨some 5, none, .mov (.tmp 16)⟩])))))) (.seq (.ops [⟨some 4, none, .mov (.const (.bool
 true))⟩]) (.ret))))
def lf_laws_eqStringS : LF := { np := 2, N := 26, body := c_laws_eqStringS, res := [.tmp 4] }
theorem low_laws_eqStringS : LowF Tryd.prog Tryd.f19 lf_laws_eqStringS := LowF.mk' (by kernel_rfl) (by kernel_rfl) (by kernel_rfl) (by decide)

def c_laws_szTable : LC :=
 .seq (.ops [⟨some 2, none, .box 24 (.tmp 0)⟩, ⟨some 4, none, .mov (.const (.int .i64 0))⟩]) (.seq (.ops [⟨some 5, none, .mov (.tmp 1)⟩, ⟨some 6, none, .fieldAddr 0 (.tmp 2)⟩, ⟨some 7, none, .load none (.tmp 6)⟩, ⟨some 8,
 none, .lenStr (.tmp 7)⟩, ⟨some 9, none, .bin .sub false (.tmp 5) (.tmp 8)⟩, ⟨some 1, none, .mov (.tmp 9)⟩]) (.seq (.seq (.ops [⟨some 10, none, .mov (.tmp 1)⟩, ⟨some 11, none, .bin .lss false (.tmp 10) (.const (.int .i64
 0))⟩]) (.cond (.tmp 11) (.seq (.ops [⟨some 4, none, .mov (.const (.int .i64 (-1)))⟩]) (.ret)) (.skip))) (.seq (.ops [⟨some 12, none, .mov (.tmp 1)⟩, ⟨some 13, none, .fieldAddr 1 (.tmp 2)⟩, ⟨some 14, none, .load none (.tmp
 13)⟩, ⟨some 15, none, .lenStr (.tmp 14)⟩, ⟨some 16, none, .bin .sub false (.tmp 12) (.tmp 15)⟩, ⟨some 1, none, .mov (.tmp 16)⟩]) (.seq (.seq (.ops [⟨some 17, none, .mov (.tmp 1)⟩, ⟨some 18, none, .bin .lss false (.tmp 17)
 (.const (.int .i64 0))⟩]) (.cond (.tmp 18) (.seq (.ops [⟨some 4, none, .mov (.const (.int .i64 (-1)))⟩]) (.ret)) (.skip))) (.seq (.ops [⟨some 19, none, .fieldAddr 2 (.tmp 2)⟩, ⟨some 20, none, .load none (.tmp 19)⟩, ⟨some
 21, none, .mov (.tmp 1)⟩, ⟨some 22, none, .call 13 [.tmp 20, .tmp 21]⟩, ⟨some 1, none, .mov (.tmp 22)⟩]) (.seq (.seq (.ops [⟨some 23, none, .mov (.tmp 1)⟩, ⟨some 24, none, .bin .lss false (.tmp 23) (.const (.int .i64
 0))⟩]) (.cond (.tmp 24) (.seq (.ops [⟨some 4, none, .mov (.const (.int .i64 (-1)))⟩]) (.ret)) (.skip))) (.seq (.ops [⟨some 25, none, .fieldAddr 3 (.tmp 2)⟩, ⟨some 26, none, .load none (.tmp 25)⟩, ⟨some 27, none, .mov
 (.tmp 1)⟩, ⟨some 28, none, .call 13 [.tmp 26, .tmp 27]⟩, ⟨some 1, none, .mov (.tmp 28)⟩]) (.seq (.seq (.ops [⟨some 29, none, .mov (.tmp 1)⟩, ⟨some 30, none, .bin .lss false (.tmp 29) (.const (.int .i64 0))⟩]) (.cond (.tmp
 30) (.seq (.ops [⟨some 4, none, .mov (.const (.int .i64 (-1)))⟩]) (.ret)) (.skip))) (.seq (.ops [⟨some 31, none, .mov (.tmp 1)⟩, ⟨some 4, none, .mov (.tmp 31)⟩]) (.ret))))))))))
def lf_laws_szTable : LF := { np := 2, N := 32, body := c_laws_szTable, res := [.tmp 4] }
theorem low_laws_szTable : LowF Tryd.prog Tryd.f4 lf_laws_szTable := LowF.mk' (by kernel_rfl) (by kernel_rfl) (by kernel_rfl) (by decide)

def c_laws_toTable : LC :=
 .seq (.ops [⟨some 1, none, .box 24 (.tmp 0)⟩, ⟨some 2, none, .alloc 30 (.agg #[.string ⟨#[]⟩, .string ⟨#[]⟩, .slice none 0 0, .slice none 0 0])⟩]) (.seq (.ops [⟨some 3, none, .alloc 30 (.agg #[.string ⟨#[]⟩, .string
 ⟨#[]⟩, .slice none 0 0, .slice none 0 0])⟩]) (.seq (.ops [⟨some 4, none, .fieldAddr 0 (.tmp 1)⟩, ⟨some 5, none, .load none (.tmp 4)⟩, ⟨some 6, none, .fieldAddr 0 (.tmp 3)⟩, ⟨none, none, .store 1 (.tmp 6) (.tmp 5)⟩]) (.seq
 (.ops [⟨some 7, none, .fieldAddr 1 (.tmp 1)⟩, ⟨some 8, none, .load none (.tmp 7)⟩, ⟨some 9, none, .fieldAddr 1 (.tmp 3)⟩, ⟨none, none, .store 1 (.tmp 9) (.tmp 8)⟩]) (.seq (.ops [⟨some 10, none, .fieldAddr 2 (.tmp 1)⟩,
 ⟨some 11, none, .load none (.tmp 10)⟩, ⟨some 12, none, .call 16 [.tmp 11]⟩, ⟨some 13, none, .fieldAddr 2 (.tmp 3)⟩, ⟨none, none, .store 1 (.tmp 13) (.tmp 12)⟩]) (.seq (.ops [⟨some 14, none, .fieldAddr 3 (.tmp 1)⟩, ⟨some
 15, none, .load none (.tmp 14)⟩, ⟨some 16, none, .call 16 [.tmp 15]⟩, ⟨some 17, none, .fieldAddr 3 (.tmp 3)⟩, ⟨none, none, .store 1 (.tmp 17) (.tmp 16)⟩]) (.seq (.ops [⟨some 18, none, .load (some 4) (.tmp 3)⟩, ⟨none,
 none, .store 4 (.tmp 2) (.tmp 18)⟩]) (.ret)))))))
def lf_laws_toTable : LF := { np := 1, N := 19, body := c_laws_toTable, res := [.cell 2 (some 4)] }
theorem low_laws_toTable : LowF Tryd.prog Tryd.f6 lf_laws_toTable := LowF.mk' (by kernel_rfl) (by kernel_rfl) (by kernel_rfl) (by decide)

def c_laws_eqTable : LC :=
 .seq (.ops [⟨some 2, none, .box 30 (.tmp 0)⟩, ⟨some 3, none, .box 30 (.tmp 1)⟩, ⟨some 4, none, .mov (.const (.bool false))⟩]) (.seq (.seq (.ops [⟨some 5, none, .fieldAddr 0 (.tmp 2)⟩, ⟨some 6, none, .load none (.tmp 5)⟩,
 ⟨some 7, none, .fieldAddr 0 (.tmp 3)⟩, ⟨some 8, none, .load none (.tmp 7)⟩, ⟨some 9, none, .bin .neq false (.tmp 6) (.tmp 8)⟩]) (.cond (.tmp 9) (.seq (.ops [⟨some 4, none, .mov (.const (.bool false))⟩]) (.ret)) (.skip)))
 (.seq (.seq (.ops [⟨some 10, none, .fieldAddr 1 (.tmp 2)⟩, ⟨some 11, none, .load none (.tmp 10)⟩, ⟨some 12, none, .fieldAddr 1 (.tmp 3)⟩, ⟨some 13, none, .load none (.tmp 12)⟩, ⟨some 14, none, .bin .neq false (.tmp 11)
 (.tmp 13)⟩]) (.cond (.tmp 14) (.seq (.ops [⟨some 4, none, .mov (.const (.bool false))⟩]) (.ret)) (.skip))) (.seq (.seq (.ops [⟨some 15, none, .fieldAddr 2 (.tmp 2)⟩, ⟨some 16, none, .load none (.tmp 15)⟩, ⟨some 17, none,
 .fieldAddr 2 (.tmp 3)⟩, ⟨some 18, none, .load none (.tmp 17)⟩, ⟨some 19, none, .call 19 [.tmp 16, .tmp 18]⟩, ⟨some 20, none, .un .not (.tmp 19)⟩]) (.cond (.tmp 20) (.seq (.ops [⟨some 4, none, .mov (.const (.bool
 false))⟩]) (.ret)) (.skip))) (.seq (.seq (.ops [⟨some 21, none, .fieldAddr 3 (.tmp 2)⟩, ⟨some 22, none, .load none (.tmp 21)⟩, ⟨some 23, none, .fieldAddr 3 (.tmp 3)⟩, ⟨some 24, none, .load none (.tmp 23)⟩, ⟨some 25, none,
 .call 19 [.tmp 22, .tmp 24]⟩, ⟨some 26, none, .un .not (.tmp 25)⟩]) (.cond (.tmp 26) (.seq (.ops [⟨some 4, none, .mov (.const (.bool false))⟩]) (.ret)) (.skip))) (.seq (.ops [⟨some 4, none, .mov (.const (.bool true))⟩])
 (.ret))))))
def lf_laws_eqTable : LF := { np := 2, N := 27, body := c_laws_eqTable, res := [.tmp 4] }
theorem low_laws_eqTable : LowF Tryd.prog Tryd.f9 lf_laws_eqTable := LowF.mk' (by kernel_rfl) (by kernel_rfl) (by kernel_rfl) (by decide)

def c_laws_eqRow : LC :=
 .seq (.ops [⟨some 2, none, .box 27 (.tmp 0)⟩, ⟨some 3, none, .box 27 (.tmp 1)⟩, ⟨some 4, none, .mov (.const (.bool false))⟩]) (.seq (.seq (.ops [⟨some 5, none, .fieldAddr 0 (.tmp 2)⟩, ⟨some 6, none, .load none (.tmp 5)⟩,
 ⟨some 7, none, .fieldAddr 0 (.tmp 3)⟩, ⟨some 8, none, .load none (.tmp 7)⟩, ⟨some 9, none, .call 19 [.tmp 6, .tmp 8]⟩, ⟨some 10, none, .un .not (.tmp 9)⟩]) (.cond (.tmp 10) (.seq (.ops [⟨some 4, none, .mov (.const (.bool
 false))⟩]) (.ret)) (.skip))) (.seq (.ops [⟨some 4, none, .mov (.const (.bool true))⟩]) (.ret)))
def lf_laws_eqRow : LF := { np := 2, N := 11, body := c_laws_eqRow, res := [.tmp 4] }
theorem low_laws_eqRow : LowF Tryd.prog Tryd.f8 lf_laws_eqRow := LowF.mk' (by kernel_rfl) (by kernel_rfl) (by kernel_rfl) (by decide)

theorem szStringS_ok (xs : List ByteArray) (l : Int) (h0 : 0 ≤ l) (h1 : l ≤ 1048576) (hw : wfList wfStr xs) (h : List Row) : PureCall Tryd.prog 13 [.list 0 1 (xs.map cStr), .val (.int .i64 l)] h (.val (.int .i64 (szR (szList ByteArray.size xs) l))) := by
  obtain ⟨hx, hs⟩ := hw
  refine pure_fn mixed Tryd.func13 low_laws_szStringS rfl rfl ?_ h
  simp (disch := omega) only [lf_laws_szStringS, c_laws_szStringS, Ex_cond, go_sem, Nat.reduceEqDiff, reduceCtorEq, Int.reduceNeg, ↓reduceIte, wrap_in]
  refine ⟨fun hn => ?_, fun hn => ?_⟩
  · rw [szR_neg (by simp only [szList]; omega)]; exact resolve_val _ _
  · refine Ex_loop (fun n t h => ∃ (k : Nat) (m : Int), t 0 = .list 0 1 (xs.map cStr) ∧ t 5 = .val (.int .i64 k) ∧ t 1 = .val (.int .i64 m) ∧ h = [] ∧ n = xs.length - k ∧ k ≤ xs.length ∧ 0 ≤ m ∧ m ≤ 1048576 ∧ szR (szList ByteArray.size xs) l = szR (sumOf ByteArray.size (xs.drop k)) m) xs.length ?_ ?_
    · exact ⟨0, l - xs.length, rfl, rfl, rfl, rfl, rfl, Nat.zero_le _, by omega, by omega, szR_sub (by omega)⟩
    · rintro J hJ n t h ⟨k, m, t0, t5, t1, rfl, rfl, hk, hm0, hm1, hS⟩
      by_cases hlt : k < xs.length
      · have hd := sumOf_drop ByteArray.size xs k hlt
        have hwk := hs _ (List.getElem_mem hlt)
        rw [hd] at hS
        unfold wfStr at hwk
        simp (disch := omega) only [t0, t5, t1, hlt, Ex_cond, go_sem, Nat.reduceEqDiff, reduceCtorEq, Int.reduceNeg, ↓reduceIte, wrap_in]
        refine ⟨fun hn2 => ?_, fun hn2 => ?_⟩
        · rw [hS, szR_neg (by omega)]; exact resolve_val _ _
        · exact ⟨xs.length - (k + 1), by omega, hJ _ _ _ ⟨k + 1, m - xs[k].size, by simp [upd, t0], by simp [upd], by simp [upd], rfl, rfl, by omega, by omega, by omega, by rw [hS, szR_sub (by omega)]⟩⟩
      · simp (disch := omega) only [t0, t5, t1, hlt, Ex_cond, go_sem, Nat.reduceEqDiff, reduceCtorEq, Int.reduceNeg, ↓reduceIte]
        rw [hS, List.drop_eq_nil_of_le (by omega), szR_pos (by simp only [sumOf]; omega)]
        simp only [sumOf, Int.natCast_zero, Int.sub_zero]
        exact resolve_val _ _

theorem toStringS_ok (xs : List ByteArray) (hb : (szList ByteArray.size) xs ≤ 1048576) (h : List Row) : PureCall Tryd.prog 16 [.list 0 1 (xs.map cStr)] h (.list 0 1 (xs.map cStr)) := by
  have hx := Nat.le_trans (szList_length (f := ByteArray.size) (xs := xs)) hb
  refine pure_fn mixed Tryd.func16 low_laws_toStringS rfl rfl ?_ h
  simp (disch := omega) only [lf_laws_toStringS, c_laws_toStringS, go_sem, reduceCtorEq, ↓reduceIte]
  refine ⟨by omega, by omega, ?_⟩
  refine Ex_loop (fun n t h => ∃ k : Nat, t 0 = .list 0 1 (xs.map cStr) ∧ t 3 = .own 0 xs.length ∧ t 4 = .val (.int .i64 k) ∧ h = [⟨9, 1, fillTo (xs.map cStr) [.val (.string ⟨#[]⟩)] k⟩] ∧ n = xs.length - k ∧ k ≤ xs.length) xs.length ?_ ?_
  · exact ⟨0, rfl, rfl, rfl, by rw [fillTo_zero]; simp, rfl, Nat.zero_le _⟩
  · rintro J hJ n t h ⟨k, t0, t3, t4, rfl, rfl, hk⟩
    have fl : (fillTo (xs.map cStr) [.val (.string ⟨#[]⟩)] k).length = xs.length := by rw [fillTo_length _ _ (by simpa using hk)]; simp
    by_cases hlt : k < xs.length
    · have fg : (fillTo (xs.map cStr) [.val (.string ⟨#[]⟩)] k)[k]? = some [.val (.string ⟨#[]⟩)] := fillTo_get _ _ (by simpa using hlt)
      have fs := fillTo_set' (xs.map cStr) [.val (.string ⟨#[]⟩)] (cStr xs[k]) (k := k) (by rw [List.getElem?_map, List.getElem?_eq_getElem hlt]; rfl)
      simp (disch := omega) only [t0, t3, t4, hlt, fl, fg, Ex_cond, go_sem, Nat.reduceEqDiff, reduceCtorEq, ↓reduceIte, wrap_in]
      try simp (disch := omega) only [fs, go_sem]
      exact ⟨xs.length - (k + 1), by omega, hJ _ _ _ ⟨k + 1, by simp [upd, t0], by simp [upd, t3], by simp [upd], by simp [], rfl, by omega⟩⟩
    · simp (disch := omega) only [t0, t3, t4, hlt, fl, Ex_cond, go_sem, Nat.reduceEqDiff, reduceCtorEq, ↓reduceIte]
      have ff : fillTo (xs.map cStr) [.val (.string ⟨#[]⟩)] k = xs.map cStr := fillTo_all _ _ (by simp; omega)
      rw [ff]
      exact resolve_own (r := ⟨9, 1, xs.map cStr⟩) rfl (by simp) (by intro e he; obtain ⟨x, _, q⟩ := List.mem_map.1 he; subst q; rfl)

theorem eqStringS_ok (xs : List ByteArray) (hb : (szList ByteArray.size) xs ≤ 1048576) (h : List Row) : PureCall Tryd.prog 19 [.list 0 1 (xs.map cStr), .list 0 1 (xs.map cStr)] h (.val (.bool true)) := by
  have hx := Nat.le_trans (szList_length (f := ByteArray.size) (xs := xs)) hb
  refine pure_fn mixed Tryd.func19 low_laws_eqStringS rfl rfl ?_ h
  simp (disch := omega) only [lf_laws_eqStringS, c_laws_eqStringS, Ex_cond, go_sem, Nat.reduceEqDiff, reduceCtorEq, ↓reduceIte]
  refine Ex_loop (fun n t h => ∃ k : Nat, t 0 = .list 0 1 (xs.map cStr) ∧ t 1 = .list 0 1 (xs.map cStr) ∧ t 5 = .val (.int .i64 k) ∧ h = [] ∧ n = xs.length - k ∧ k ≤ xs.length) xs.length ?_ ?_
  · exact ⟨0, rfl, rfl, rfl, rfl, rfl, Nat.zero_le _⟩
  · rintro J hJ n t h ⟨k, t0, t1, t5, rfl, rfl, hk⟩
    by_cases hlt : k < xs.length
    · simp (disch := omega) only [t0, t1, t5, hlt, Ex_cond, go_sem, Nat.reduceEqDiff, reduceCtorEq, ↓reduceIte, wrap_in]
      exact ⟨xs.length - (k + 1), by omega, hJ _ _ _ ⟨k + 1, by simp [upd, t0], by simp [upd, t1], by simp [upd], rfl, rfl, by omega⟩⟩
    · simp (disch := omega) only [t0, t1, t5, hlt, Ex_cond, go_sem, Nat.reduceEqDiff, reduceCtorEq, ↓reduceIte, wrap_in]
      exact resolve_val _ _

theorem szTable_ok (x : GTable) (l : Int) (h0 : 0 ≤ l) (h1 : l ≤ 1048576) (hw : GTable.wf x) (h : List Row) : PureCall Tryd.prog 4 [.agg (GTable.cells x), .val (.int .i64 l)] h (.val (.int .i64 (szR (GTable.sz x) l))) := by
  obtain ⟨w_Name, w_Global, w_Columns, w_Indexes, _⟩ := hw
  have hsz : GTable.sz x = ByteArray.size x.Name + ByteArray.size x.Global + (szList ByteArray.size) x.Columns + (szList ByteArray.size) x.Indexes := rfl
  refine pure_fn mixed Tryd.func4 low_laws_szTable rfl rfl ?_ h
  unfold wfStr at w_Name
  unfold wfStr at w_Global
  simp (disch := omega) only [lf_laws_szTable, c_laws_szTable, GTable.cells, Ex_cond, go_sem, Nat.reduceEqDiff, Nat.reduceAdd, Int.reduceNeg, ↓reduceIte, wrap_in]
  refine ⟨fun hn => ?_, fun hn_Name => ?_⟩
  · rw [szR_neg (by omega)]; exact resolve_val _ _
  try simp (disch := omega) only [wrap_in]
  refine ⟨fun hn => ?_, fun hn_Global => ?_⟩
  · rw [szR_neg (by omega)]; exact resolve_val _ _
  try simp (disch := omega) only [wrap_in]
  refine PureCall.call (szStringS_ok x.Columns (l - ByteArray.size x.Name - ByteArray.size x.Global) (by omega) (by omega) w_Columns _) ?_
  by_cases hn_Columns : ((szList ByteArray.size) x.Columns : Int) ≤ l - ByteArray.size x.Name - ByteArray.size x.Global
  case neg =>
    rw [szR_neg (n := (szList ByteArray.size) x.Columns) (l := l - ByteArray.size x.Name - ByteArray.size x.Global) (by omega)]
    simp (disch := omega) only [Ex_cond, go_sem, Nat.reduceEqDiff, Int.reduceNeg, ↓reduceIte]
    rw [szR_neg (by omega)]; exact resolve_val _ _
  rw [szR_pos (n := (szList ByteArray.size) x.Columns) (l := l - ByteArray.size x.Name - ByteArray.size x.Global) hn_Columns]
  simp (disch := omega) only [Ex_cond, go_sem, Nat.reduceEqDiff, Int.reduceNeg, ↓reduceIte]
  refine ⟨fun hn => absurd hn (by omega), fun _ => ?_⟩
  refine PureCall.call (szStringS_ok x.Indexes (l - ByteArray.size x.Name - ByteArray.size x.Global - (szList ByteArray.size) x.Columns) (by omega) (by omega) w_Indexes _) ?_
  by_cases hn_Indexes : ((szList ByteArray.size) x.Indexes : Int) ≤ l - ByteArray.size x.Name - ByteArray.size x.Global - (szList ByteArray.size) x.Columns
  case neg =>
    rw [szR_neg (n := (szList ByteArray.size) x.Indexes) (l := l - ByteArray.size x.Name - ByteArray.size x.Global - (szList ByteArray.size) x.Columns) (by omega)]
    simp (disch := omega) only [Ex_cond, go_sem, Nat.reduceEqDiff, Int.reduceNeg, ↓reduceIte]
    rw [szR_neg (by omega)]; exact resolve_val _ _
  rw [szR_pos (n := (szList ByteArray.size) x.Indexes) (l := l - ByteArray.size x.Name - ByteArray.size x.Global - (szList ByteArray.size) x.Columns) hn_Indexes]
  simp (disch := omega) only [Ex_cond, go_sem, Nat.reduceEqDiff, Int.reduceNeg, ↓reduceIte]
  refine ⟨fun hn => absurd hn (by omega), fun _ => ?_⟩
  rw [szR_pos (by omega), hsz]
  have hfin : l - ((ByteArray.size x.Name + ByteArray.size x.Global + (szList ByteArray.size) x.Columns + (szList ByteArray.size) x.Indexes : Nat) : Int) = l - ByteArray.size x.Name - ByteArray.size x.Global - (szList ByteArray.size) x.Columns - (szList ByteArray.size) x.Indexes := by omega
  rw [hfin]; exact resolve_val _ _

theorem toTable_ok (x : GTable) (hb : GTable.sz x ≤ 1048576) (h : List Row) : PureCall Tryd.prog 6 [.agg (GTable.cells x)] h (.agg (GTable.cells x)) := by
  have hsz : GTable.sz x = ByteArray.size x.Name + ByteArray.size x.Global + (szList ByteArray.size) x.Columns + (szList ByteArray.size) x.Indexes := rfl
  refine pure_fn mixed Tryd.func6 low_laws_toTable rfl rfl ?_ h
  simp (disch := omega) only [lf_laws_toTable, c_laws_toTable, GTable.cells, go_sem, Nat.reduceEqDiff, Nat.reduceAdd, Nat.reduceLeDiff, ↓reduceIte]
  refine PureCall.call (toStringS_ok x.Columns (by omega) _) ?_
  simp (disch := omega) only [go_sem, Nat.reduceEqDiff, Nat.reduceAdd, Nat.reduceLeDiff, ↓reduceIte]
  refine PureCall.call (toStringS_ok x.Indexes (by omega) _) ?_
  simp (disch := omega) only [go_sem, Nat.reduceEqDiff, Nat.reduceAdd, ↓reduceIte, post_cell]
  exact resolve_agg _ _ rfl

theorem eqTable_ok (x : GTable) (hb : GTable.sz x ≤ 1048576) (h : List Row) : PureCall Tryd.prog 9 [.agg (GTable.cells x), .agg (GTable.cells x)] h (.val (.bool true)) := by
  have hsz : GTable.sz x = ByteArray.size x.Name + ByteArray.size x.Global + (szList ByteArray.size) x.Columns + (szList ByteArray.size) x.Indexes := rfl
  refine pure_fn mixed Tryd.func9 low_laws_eqTable rfl rfl ?_ h
  simp (disch := omega) only [lf_laws_eqTable, c_laws_eqTable, GTable.cells, Ex_cond, go_sem, Nat.reduceEqDiff, Nat.reduceAdd, ↓reduceIte]
  refine PureCall.call (eqStringS_ok x.Columns (by omega) _) ?_
  simp (disch := omega) only [Ex_cond, go_sem, Nat.reduceEqDiff, ↓reduceIte]
  refine PureCall.call (eqStringS_ok x.Indexes (by omega) _) ?_
  simp (disch := omega) only [Ex_cond, go_sem, ↓reduceIte]
  exact resolve_val _ _

theorem eqRow_ok (x : GRow) (hb : GRow.sz x ≤ 1048576) (h : List Row) : PureCall Tryd.prog 8 [.agg (GRow.cells x), .agg (GRow.cells x)] h (.val (.bool true)) := by
  have hsz : GRow.sz x = (szList ByteArray.size) x.Cells := rfl
  refine pure_fn mixed Tryd.func8 low_laws_eqRow rfl rfl ?_ h
  simp (disch := omega) only [lf_laws_eqRow, c_laws_eqRow, GRow.cells, go_sem, Nat.reduceEqDiff, ↓reduceIte]
  refine PureCall.call (eqStringS_ok x.Cells (by omega) _) ?_
  simp (disch := omega) only [Ex_cond, go_sem, ↓reduceIte]
  exact resolve_val _ _

end Go.Proofs.YtkddmakjmjmokaaDoor
