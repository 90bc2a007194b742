/-
  Contracts of functions of this program, over abstract values. Conditions: as each theorem says.
-/
import Derived.Test.YtodgohgdnmifaaaGreatDoorGnFnExactWaitsFor
import Derived.Test.YtodgohgdnmifaaaGreatDoorAwC
import Derived.Test.YtodgohgdnmifaaaGreatDoorPlNum
namespace Go.Proofs.YtodgohgdnmifaaaGreatDoor
open Go.AW
set_option linter.unusedVariables false
set_option linter.unusedSimpArgs false
set_option maxRecDepth 4000

/-- The text of a mark. -/
def mtext (k : Int) : ByteArray := if k ≤ 0 then txt [109, 48] else txt (109 :: wholeD k.toNat)
theorem wholeD_more (u : Nat) (h : u ≠ 0) : wholeD u = wholeD (u / 10) ++ [UInt8.ofNat (48 + u % 10)] := by
  unfold wholeD
  rw [if_neg h, Lib.decDigits]
  by_cases q : u < 10
  · rw [dif_pos q, if_pos (by omega)]
    have : u % 10 = u := by omega
    rw [this]; rfl
  · rw [dif_neg q, if_neg (by omega)]
theorem wholeD_short (u : Nat) (h : u ≤ 4611686018427387904) : (wholeD u).length ≤ 19 := by
  unfold wholeD
  split
  · simp
  · rw [Go.Lib.decDigits_length]; exact nDigits_le 18 _ (by omega)
def c_laws_markText : LC :=
 .seq (.ops [⟨some 2, none, .mov (.const (.string ⟨#[]⟩))⟩]) (.seq (.seq (.ops [⟨some 4, none, .mov (.tmp 0)⟩, ⟨some 5, none, .bin .leq false (.tmp 4) (.const (.int .i64 0))⟩]) (.cond (.tmp 5) (.seq (.ops [⟨some 2, none,
 .mov (.const (.string ⟨#[109, 48]⟩))⟩]) (.ret)) (.skip))) (.seq (.ops [⟨some 3, none, .mov (.const (.string ⟨#[]⟩))⟩]) (.seq (.block 0 (.loop (.seq (.seq (.ops [⟨some 6, none, .mov (.tmp 0)⟩, ⟨some 7, none, .bin .gtr
 false (.tmp 6) (.const (.int .i64 0))⟩]) (.cond (.tmp 7) (.skip) (.exit 0))) (.block 1 (.seq (.ops [⟨some 8, none, .mov (.tmp 0)⟩, ⟨some 9, none, .bin .rem false (.tmp 8) (.const (.int .i64 10))⟩, ⟨some 10, none, .bin
 .add false (.const (.int .i64 48)) (.tmp 9)⟩, ⟨some 11, none, .convInt .u8 (.tmp 10)⟩, ⟨some 12, none, .buildSlice 5 1 (.int .u8 0) 1 [(0, .tmp 11)]⟩, ⟨some 13, none, .toStr (.tmp 12)⟩, ⟨some 14, none, .mov (.tmp 3)⟩,
 ⟨some 15, none, .bin .add false (.tmp 13) (.tmp 14)⟩, ⟨some 3, none, .mov (.tmp 15)⟩]) (.ops [⟨some 16, none, .mov (.tmp 0)⟩, ⟨some 17, none, .bin .quo false (.tmp 16) (.const (.int .i64 10))⟩, ⟨some 0, none, .mov (.tmp
 17)⟩])))))) (.seq (.ops [⟨some 18, none, .mov (.tmp 3)⟩, ⟨some 19, none, .bin .add false (.const (.string ⟨#[109]⟩)) (.tmp 18)⟩, ⟨some 2, none, .mov (.tmp 19)⟩]) (.ret)))))
def lf_laws_markText : LF := { np := 1, N := 20, body := c_laws_markText, res := [.tmp 2] }
theorem low_laws_markText : LowF Tryz.prog Tryz.f61 lf_laws_markText := LowF.mk' (by kernel_rfl) (by kernel_rfl) (by kernel_rfl) (by decide)

theorem markText_ok (k : Int) (hk : 0 ≤ k) (hb : k ≤ 4611686018427387904) (h : List Row) : PureCall Tryz.prog 61 [.val (.int .i64 k)] h (.val (.string (mtext k))) := by
  refine pure_fn mixed Tryz.func61 low_laws_markText rfl rfl ?_ h
  by_cases h0 : k ≤ 0
  · simp (disch := omega) only [lf_laws_markText, c_laws_markText, h0, go_sem, Nat.reduceEqDiff, Nat.reduceAdd, Nat.reduceLeDiff, reduceCtorEq, Int.reduceLT, Int.reduceLE, Int.reduceNeg, Int.reduceSub, Int.reduceAdd, Int.reduceToNat, ↓reduceIte]
    exact resolve_str (by rw [mtext, if_pos h0])
  · simp (disch := omega) only [lf_laws_markText, c_laws_markText, h0, go_sem, Nat.reduceEqDiff, Nat.reduceAdd, Nat.reduceLeDiff, reduceCtorEq, Int.reduceLT, Int.reduceLE, Int.reduceNeg, Int.reduceSub, Int.reduceAdd, Int.reduceToNat, ↓reduceIte]
    have hL := wholeD_short k.toNat (by omega)
    refine Ex_loop (fun n t h => ∃ (u : Nat) (out : List UInt8), t 0 = .val (.int .i64 u) ∧ t 3 = .val (.string (txt out)) ∧ u = n ∧ u ≤ 4611686018427387904 ∧ wholeD k.toNat = wholeD u ++ out) k.toNat ⟨k.toNat, [], by simp [upd, initT]; omega, rfl, rfl, by omega, by simp⟩ ?_
    rintro J hJ n t h ⟨u, out, t0, t3, rfl, hu, hS⟩
    by_cases hz : 0 < u
    · have hm := wholeD_more u (by omega)
      have hlen := congrArg List.length hS
      simp only [List.length_append] at hlen
      have hl1 : ([UInt8.ofNat (48 + u % 10)] : List UInt8).length + out.length ≤ 9223372036854775807 := by simp only [List.length_cons, List.length_nil]; omega
      have e1 : ((u : Int) % 10).toNat = u % 10 := by omega
      have e2 : (48 + (u : Int) % 10).toNat = 48 + u % 10 := by omega
      have e3 : ((u : Int) / 10) = ((u / 10 : Nat) : Int) := by omega
      simp (disch := omega) only [t0, t3, hz, e2, e3, bin_sadd _ _ _ hl1, go_sem, Nat.reduceEqDiff, Nat.reduceAdd, Nat.reduceLeDiff, reduceCtorEq, Int.reduceLT, Int.reduceLE, Int.reduceNeg, Int.reduceSub, Int.reduceAdd, Int.reduceToNat, ↓reduceIte]
      exact ⟨u / 10, by omega, hJ _ _ _ ⟨u / 10, UInt8.ofNat (48 + u % 10) :: out, by simp [upd], by simp [upd], rfl, by omega, by rw [hS, hm, List.append_assoc]; rfl⟩⟩
    · have hz' : u = 0 := by omega
      subst hz'
      have hlen := congrArg List.length hS
      simp only [List.length_append] at hlen
      have hl2 : ([109] : List UInt8).length + out.length ≤ 9223372036854775807 := by simp only [List.length_cons, List.length_nil]; omega
      simp (disch := omega) only [t0, t3, hz, bin_sadd _ _ _ hl2, go_sem, Nat.reduceEqDiff, Nat.reduceAdd, Nat.reduceLeDiff, reduceCtorEq, Int.reduceLT, Int.reduceLE, Int.reduceNeg, Int.reduceSub, Int.reduceAdd, Int.reduceToNat, ↓reduceIte]
      exact resolve_str (by rw [mtext, if_neg h0, hS]; rfl)

def c_laws_markStringS : LC :=
 .seq (.ops [⟨some 4, none, .mov (.const (.int .i64 0))⟩]) (.seq (.seq (.ops [⟨some 5, none, .mov (.const (.int .i64 0))⟩]) (.block 0 (.loop (.seq (.seq (.ops [⟨some 6, none, .mov (.tmp 5)⟩, ⟨some 7, none, .mov (.tmp 0)⟩,
 ⟨some 8, none, .lenSl (.tmp 7)⟩, ⟨some 9, none, .bin .lss false (.tmp 6) (.tmp 8)⟩]) (.cond (.tmp 9) (.skip) (.exit 0))) (.seq (.block 1 (.seq (.ops [⟨some 12, none, .mov (.tmp 0)⟩, ⟨some 13, none, .mov (.tmp 5)⟩, ⟨some
 14, none, .mov (.tmp 1)⟩, ⟨some 15, none, .call 61 [.tmp 14]⟩, ⟨some 16, none, .indexAddr 1 (.tmp 12) (.tmp 13)⟩, ⟨none, none, .store 1 (.tmp 16) (.tmp 15)⟩]) (.ops [⟨some 17, none, .mov (.tmp 1)⟩, ⟨some 18, none, .bin
 .add false (.tmp 17) (.const (.int .i64 1))⟩, ⟨some 1, none, .mov (.tmp 18)⟩]))) (.ops [⟨some 10, none, .mov (.tmp 5)⟩, ⟨some 11, none, .bin .add false (.tmp 10) (.const (.int .i64 1))⟩, ⟨some 5, none, .mov (.tmp
 11)⟩])))))) (.seq (.ops [⟨some 19, none, .mov (.tmp 1)⟩, ⟨some 4, none, .mov (.tmp 19)⟩]) (.ret)))
def lf_laws_markStringS : LF := { np := 2, N := 20, body := c_laws_markStringS, res := [.tmp 4] }
theorem low_laws_markStringS : LowF Tryz.prog Tryz.f24 lf_laws_markStringS := LowF.mk' (by kernel_rfl) (by kernel_rfl) (by kernel_rfl) (by decide)

def c_laws_markLockS : LC :=
 .seq (.ops [⟨some 4, none, .mov (.const (.int .i64 0))⟩]) (.seq (.seq (.ops [⟨some 5, none, .mov (.const (.int .i64 0))⟩]) (.block 0 (.loop (.seq (.seq (.ops [⟨some 6, none, .mov (.tmp 5)⟩, ⟨some 7, none, .mov (.tmp 0)⟩,
 ⟨some 8, none, .lenSl (.tmp 7)⟩, ⟨some 9, none, .bin .lss false (.tmp 6) (.tmp 8)⟩]) (.cond (.tmp 9) (.skip) (.exit 0))) (.seq (.block 1 (.seq (.ops [⟨some 12, none, .mov (.tmp 0)⟩, ⟨some 13, none, .mov (.tmp 5)⟩, ⟨some
 14, none, .mov (.tmp 1)⟩, ⟨some 15, none, .indexAddr 4 (.tmp 12) (.tmp 13)⟩, ⟨some 16, none, .fieldAddr 0 (.tmp 15)⟩, ⟨none, none, .store 1 (.tmp 16) (.tmp 14)⟩]) (.seq (.ops [⟨some 17, none, .mov (.tmp 1)⟩, ⟨some 18,
 none, .bin .add false (.tmp 17) (.const (.int .i64 1))⟩, ⟨some 1, none, .mov (.tmp 18)⟩]) (.seq (.ops [⟨some 19, none, .mov (.tmp 0)⟩, ⟨some 20, none, .mov (.tmp 5)⟩, ⟨some 21, none, .mov (.tmp 1)⟩, ⟨some 22, none,
 .indexAddr 4 (.tmp 19) (.tmp 20)⟩, ⟨some 23, none, .fieldAddr 1 (.tmp 22)⟩, ⟨none, none, .store 1 (.tmp 23) (.tmp 21)⟩]) (.seq (.ops [⟨some 24, none, .mov (.tmp 1)⟩, ⟨some 25, none, .bin .add false (.tmp 24) (.const (.int
 .i64 1))⟩, ⟨some 1, none, .mov (.tmp 25)⟩]) (.seq (.ops [⟨some 26, none, .mov (.tmp 0)⟩, ⟨some 27, none, .mov (.tmp 5)⟩, ⟨some 28, none, .mov (.tmp 1)⟩, ⟨some 29, none, .call 61 [.tmp 28]⟩, ⟨some 30, none, .indexAddr 4
 (.tmp 26) (.tmp 27)⟩, ⟨some 31, none, .fieldAddr 2 (.tmp 30)⟩, ⟨none, none, .store 1 (.tmp 31) (.tmp 29)⟩]) (.seq (.ops [⟨some 32, none, .mov (.tmp 1)⟩, ⟨some 33, none, .bin .add false (.tmp 32) (.const (.int .i64 1))⟩,
 ⟨some 1, none, .mov (.tmp 33)⟩]) (.ops [⟨some 34, none, .mov (.tmp 0)⟩, ⟨some 35, none, .mov (.tmp 5)⟩, ⟨some 36, none, .indexAddr 4 (.tmp 34) (.tmp 35)⟩, ⟨some 37, none, .fieldAddr 3 (.tmp 36)⟩, ⟨some 38, none, .load
 none (.tmp 37)⟩, ⟨some 39, none, .mov (.tmp 1)⟩, ⟨some 40, none, .call 24 [.tmp 38, .tmp 39]⟩, ⟨some 1, none, .mov (.tmp 40)⟩])))))))) (.ops [⟨some 10, none, .mov (.tmp 5)⟩, ⟨some 11, none, .bin .add false (.tmp 10)
 (.const (.int .i64 1))⟩, ⟨some 5, none, .mov (.tmp 11)⟩])))))) (.seq (.ops [⟨some 41, none, .mov (.tmp 1)⟩, ⟨some 4, none, .mov (.tmp 41)⟩]) (.ret)))
def lf_laws_markLockS : LF := { np := 2, N := 42, body := c_laws_markLockS, res := [.tmp 4] }
theorem low_laws_markLockS : LowF Tryz.prog Tryz.f41 lf_laws_markLockS := LowF.mk' (by kernel_rfl) (by kernel_rfl) (by kernel_rfl) (by decide)

def c_laws_markAskS : LC :=
 .seq (.ops [⟨some 4, none, .mov (.const (.int .i64 0))⟩]) (.seq (.seq (.ops [⟨some 5, none, .mov (.const (.int .i64 0))⟩]) (.block 0 (.loop (.seq (.seq (.ops [⟨some 6, none, .mov (.tmp 5)⟩, ⟨some 7, none, .mov (.tmp 0)⟩,
 ⟨some 8, none, .lenSl (.tmp 7)⟩, ⟨some 9, none, .bin .lss false (.tmp 6) (.tmp 8)⟩]) (.cond (.tmp 9) (.skip) (.exit 0))) (.seq (.block 1 (.seq (.ops [⟨some 12, none, .mov (.tmp 0)⟩, ⟨some 13, none, .mov (.tmp 5)⟩, ⟨some
 14, none, .mov (.tmp 1)⟩, ⟨some 15, none, .indexAddr 4 (.tmp 12) (.tmp 13)⟩, ⟨some 16, none, .fieldAddr 0 (.tmp 15)⟩, ⟨none, none, .store 1 (.tmp 16) (.tmp 14)⟩]) (.seq (.ops [⟨some 17, none, .mov (.tmp 1)⟩, ⟨some 18,
 none, .bin .add false (.tmp 17) (.const (.int .i64 1))⟩, ⟨some 1, none, .mov (.tmp 18)⟩]) (.seq (.ops [⟨some 19, none, .mov (.tmp 0)⟩, ⟨some 20, none, .mov (.tmp 5)⟩, ⟨some 21, none, .mov (.tmp 1)⟩, ⟨some 22, none,
 .indexAddr 4 (.tmp 19) (.tmp 20)⟩, ⟨some 23, none, .fieldAddr 1 (.tmp 22)⟩, ⟨none, none, .store 1 (.tmp 23) (.tmp 21)⟩]) (.seq (.ops [⟨some 24, none, .mov (.tmp 1)⟩, ⟨some 25, none, .bin .add false (.tmp 24) (.const (.int
 .i64 1))⟩, ⟨some 1, none, .mov (.tmp 25)⟩]) (.seq (.ops [⟨some 26, none, .mov (.tmp 0)⟩, ⟨some 27, none, .mov (.tmp 5)⟩, ⟨some 28, none, .mov (.tmp 1)⟩, ⟨some 29, none, .call 61 [.tmp 28]⟩, ⟨some 30, none, .indexAddr 4
 (.tmp 26) (.tmp 27)⟩, ⟨some 31, none, .fieldAddr 2 (.tmp 30)⟩, ⟨none, none, .store 1 (.tmp 31) (.tmp 29)⟩]) (.seq (.ops [⟨some 32, none, .mov (.tmp 1)⟩, ⟨some 33, none, .bin .add false (.tmp 32) (.const (.int .i64 1))⟩,
 ⟨some 1, none, .mov (.tmp 33)⟩]) (.ops [⟨some 34, none, .mov (.tmp 0)⟩, ⟨some 35, none, .mov (.tmp 5)⟩, ⟨some 36, none, .indexAddr 4 (.tmp 34) (.tmp 35)⟩, ⟨some 37, none, .fieldAddr 3 (.tmp 36)⟩, ⟨some 38, none, .load
 none (.tmp 37)⟩, ⟨some 39, none, .mov (.tmp 1)⟩, ⟨some 40, none, .call 24 [.tmp 38, .tmp 39]⟩, ⟨some 1, none, .mov (.tmp 40)⟩])))))))) (.ops [⟨some 10, none, .mov (.tmp 5)⟩, ⟨some 11, none, .bin .add false (.tmp 10)
 (.const (.int .i64 1))⟩, ⟨some 5, none, .mov (.tmp 11)⟩])))))) (.seq (.ops [⟨some 41, none, .mov (.tmp 1)⟩, ⟨some 4, none, .mov (.tmp 41)⟩]) (.ret)))
def lf_laws_markAskS : LF := { np := 2, N := 42, body := c_laws_markAskS, res := [.tmp 4] }
theorem low_laws_markAskS : LowF Tryz.prog Tryz.f42 lf_laws_markAskS := LowF.mk' (by kernel_rfl) (by kernel_rfl) (by kernel_rfl) (by decide)

def c_laws_markLocks : LC :=
 .seq (.ops [⟨some 2, none, .box 32 (.tmp 0)⟩, ⟨some 4, none, .mov (.const (.int .i64 0))⟩]) (.seq (.ops [⟨some 5, none, .fieldAddr 0 (.tmp 2)⟩, ⟨some 6, none, .load none (.tmp 5)⟩, ⟨some 7, none, .mov (.tmp 1)⟩, ⟨some 8,
 none, .call 41 [.tmp 6, .tmp 7]⟩, ⟨some 1, none, .mov (.tmp 8)⟩]) (.seq (.ops [⟨some 9, none, .fieldAddr 1 (.tmp 2)⟩, ⟨some 10, none, .load none (.tmp 9)⟩, ⟨some 11, none, .mov (.tmp 1)⟩, ⟨some 12, none, .call 42 [.tmp
 10, .tmp 11]⟩, ⟨some 1, none, .mov (.tmp 12)⟩]) (.seq (.ops [⟨some 13, none, .mov (.tmp 1)⟩, ⟨some 4, none, .mov (.tmp 13)⟩]) (.ret))))
def lf_laws_markLocks : LF := { np := 2, N := 14, body := c_laws_markLocks, res := [.tmp 4] }
theorem low_laws_markLocks : LowF Tryz.prog Tryz.f14 lf_laws_markLocks := LowF.mk' (by kernel_rfl) (by kernel_rfl) (by kernel_rfl) (by decide)

def c_laws_markInt64S : LC :=
 .seq (.ops [⟨some 4, none, .mov (.const (.int .i64 0))⟩]) (.seq (.seq (.ops [⟨some 5, none, .mov (.const (.int .i64 0))⟩]) (.block 0 (.loop (.seq (.seq (.ops [⟨some 6, none, .mov (.tmp 5)⟩, ⟨some 7, none, .mov (.tmp 0)⟩,
 ⟨some 8, none, .lenSl (.tmp 7)⟩, ⟨some 9, none, .bin .lss false (.tmp 6) (.tmp 8)⟩]) (.cond (.tmp 9) (.skip) (.exit 0))) (.seq (.block 1 (.seq (.ops [⟨some 12, none, .mov (.tmp 0)⟩, ⟨some 13, none, .mov (.tmp 5)⟩, ⟨some
 14, none, .mov (.tmp 1)⟩, ⟨some 15, none, .indexAddr 1 (.tmp 12) (.tmp 13)⟩, ⟨none, none, .store 1 (.tmp 15) (.tmp 14)⟩]) (.ops [⟨some 16, none, .mov (.tmp 1)⟩, ⟨some 17, none, .bin .add false (.tmp 16) (.const (.int .i64
 1))⟩, ⟨some 1, none, .mov (.tmp 17)⟩]))) (.ops [⟨some 10, none, .mov (.tmp 5)⟩, ⟨some 11, none, .bin .add false (.tmp 10) (.const (.int .i64 1))⟩, ⟨some 5, none, .mov (.tmp 11)⟩])))))) (.seq (.ops [⟨some 18, none, .mov
 (.tmp 1)⟩, ⟨some 4, none, .mov (.tmp 18)⟩]) (.ret)))
def lf_laws_markInt64S : LF := { np := 2, N := 19, body := c_laws_markInt64S, res := [.tmp 4] }
theorem low_laws_markInt64S : LowF Tryz.prog Tryz.f15 lf_laws_markInt64S := LowF.mk' (by kernel_rfl) (by kernel_rfl) (by kernel_rfl) (by decide)

def c_laws_heldInt64S : LC :=
 .seq (.ops [⟨some 4, none, .mov (.const (.int .i64 0))⟩]) (.seq (.seq (.ops [⟨some 5, none, .mov (.const (.int .i64 0))⟩]) (.block 0 (.loop (.seq (.seq (.ops [⟨some 6, none, .mov (.tmp 5)⟩, ⟨some 7, none, .mov (.tmp 0)⟩,
 ⟨some 8, none, .lenSl (.tmp 7)⟩, ⟨some 9, none, .bin .lss false (.tmp 6) (.tmp 8)⟩]) (.cond (.tmp 9) (.skip) (.exit 0))) (.seq (.block 1 (.seq (.seq (.ops [⟨some 12, none, .mov (.tmp 0)⟩, ⟨some 13, none, .mov (.tmp 5)⟩,
 ⟨some 14, none, .indexAddr 1 (.tmp 12) (.tmp 13)⟩, ⟨some 15, none, .load none (.tmp 14)⟩, ⟨some 16, none, .mov (.tmp 1)⟩, ⟨some 17, none, .bin .neq false (.tmp 15) (.tmp 16)⟩]) (.cond (.tmp 17) (.seq (.ops [⟨some 4, none,
 .mov (.const (.int .i64 (-1)))⟩]) (.ret)) (.skip))) (.ops [⟨some 18, none, .mov (.tmp 1)⟩, ⟨some 19, none, .bin .add false (.tmp 18) (.const (.int .i64 1))⟩, ⟨some 1, none, .mov (.tmp 19)⟩]))) (.ops [⟨some 10, none, .mov
 (.tmp 5)⟩, ⟨some 11, none, .bin .add false (.tmp 10) (.const (.int .i64 1))⟩, ⟨some 5, none, .mov (.tmp 11)⟩])))))) (.seq (.ops [⟨some 20, none, .mov (.tmp 1)⟩, ⟨some 4, none, .mov (.tmp 20)⟩]) (.ret)))
def lf_laws_heldInt64S : LF := { np := 2, N := 21, body := c_laws_heldInt64S, res := [.tmp 4] }
theorem low_laws_heldInt64S : LowF Tryz.prog Tryz.f16 lf_laws_heldInt64S := LowF.mk' (by kernel_rfl) (by kernel_rfl) (by kernel_rfl) (by decide)

theorem shs_StringS (xs : List ByteArray) : ∀ e ∈ xs.map cStr, shEl [.str] e := by
  intro e he
  obtain ⟨x, _, q⟩ := List.mem_map.1 he; subst q
  simp only [shEl, shCell, cStr]
  exact ⟨_, _, rfl, ⟨_, rfl⟩, rfl⟩
theorem cntb_StringS (xs : List ByteArray) : cntAcc (cntEl [.str]) (xs.map cStr) ≤ 1 * (szList ByteArray.size) xs := by
  refine cnt_bound (fun x => ?_) xs
  simp only [cStr, cntEl, cntCell]
  omega
theorem cnt_StringS (xs : List ByteArray) (hb : (szList ByteArray.size) xs ≤ 1048576) : cntAcc (cntEl [.str]) (xs.map cStr) ≤ 1 * 1048576 := by
  have := cntb_StringS xs
  omega

theorem toStringS_fresh (xs : List ByteArray) (hb : (szList ByteArray.size) xs ≤ 1048576) : FreshCall Tryz.prog 21 [.list 0 1 (xs.map cStr)] (.list 0 1 (xs.map cStr)) (fun a => ∃ l, a = .own l xs.length) := by
  have hx := Nat.le_trans (szList_length (f := ByteArray.size) (xs := xs)) hb
  refine fresh_fn mixed Tryz.func21 low_laws_toStringS rfl (fun h0 => ?_)
  simp (disch := omega) only [lf_laws_toStringS, c_laws_toStringS, Ex_cond, go_sem, Nat.reduceEqDiff, Nat.reduceAdd, Nat.reduceLeDiff, reduceCtorEq, Int.reduceLT, Int.reduceLE, Int.reduceNeg, Int.reduceSub, Int.reduceAdd, Int.reduceToNat, ↓reduceIte, wrap_in]
  refine ⟨by omega, by omega, ?_⟩
  refine Ex_loop (fun n t h => ∃ k : Nat, t 0 = .list 0 1 (xs.map cStr) ∧ t 3 = .own h0.length xs.length ∧ t 4 = .val (.int .i64 k) ∧ h = h0 ++ [⟨9, 1, fillTo (xs.map cStr) [.val (.string (txt []))] k⟩] ∧ n = xs.length - k ∧ k ≤ xs.length) xs.length ?_ ?_
  · exact ⟨0, rfl, rfl, rfl, by rw [fillTo_zero]; simp, rfl, Nat.zero_le _⟩
  · rintro J hJ n t h ⟨k, t0, t3, t4, rfl, rfl, hk⟩
    have fl : (fillTo (xs.map cStr) [.val (.string (txt []))] k).length = xs.length := by rw [fillTo_length _ _ (by simpa using hk)]; simp
    by_cases hlt : k < xs.length
    · have fg : (fillTo (xs.map cStr) [.val (.string (txt []))] k)[k]? = some [.val (.string (txt []))] := fillTo_get _ _ (by simpa using hlt)
      have fs := fillTo_set' (xs.map cStr) [.val (.string (txt []))] (cStr xs[k]) (k := k) (by rw [List.getElem?_map, List.getElem?_eq_getElem hlt]; rfl)
      simp (disch := omega) only [t0, t3, t4, hlt, fl, fg, Ex_cond, go_sem, Nat.reduceEqDiff, Nat.reduceAdd, Nat.reduceLeDiff, reduceCtorEq, Int.reduceLT, Int.reduceLE, Int.reduceNeg, Int.reduceSub, Int.reduceAdd, Int.reduceToNat, ↓reduceIte, wrap_in]
      try simp (disch := omega) only [fs, fl, fg, Ex_cond, go_sem, Nat.reduceEqDiff, Nat.reduceAdd, Nat.reduceLeDiff, reduceCtorEq, Int.reduceLT, Int.reduceLE, Int.reduceNeg, Int.reduceSub, Int.reduceAdd, Int.reduceToNat, ↓reduceIte, wrap_in]
      exact ⟨xs.length - (k + 1), by omega, hJ _ _ _ ⟨k + 1, by simp [upd, t0], by simp [upd, t3], by simp [upd], by simp [fs], rfl, by omega⟩⟩
    · simp (disch := omega) only [t0, t3, t4, hlt, fl, Ex_cond, go_sem, Nat.reduceEqDiff, Nat.reduceAdd, Nat.reduceLeDiff, reduceCtorEq, Int.reduceLT, Int.reduceLE, Int.reduceNeg, Int.reduceSub, Int.reduceAdd, Int.reduceToNat, ↓reduceIte, wrap_in]
      have ff : fillTo (xs.map cStr) [.val (.string (txt []))] k = xs.map cStr := fillTo_all _ _ (by simp; omega)
      rw [ff]
      refine ⟨_, rfl, (FreshB.mkown (lo := h0.length + 1) (hi := h0.length + 1) (FreshLLB.ofVals _ _ _ _ ?_) (by rw [getA0]; rfl) (by simp) (Nat.le_refl _) (Nat.lt_succ_self _) (Nat.le_refl _)).fresh, _, rfl⟩
      intro e he c hc
      obtain ⟨x, _, q⟩ := List.mem_map.1 he; subst q
      simp only [cStr, List.mem_singleton] at hc
      exact ⟨_, hc⟩

theorem markStringS_mk : MarkC Tryz.prog 24 mtext [.str] := by
  refine MarkC.of ?_ ?_
  · intro H k K hK
    refine call_of_fnWp mixed Tryz.func24 low_laws_markStringS (fnWp_of rfl ?_)
    simp (disch := omega) only [lf_laws_markStringS, c_laws_markStringS, go_sem, Nat.reduceEqDiff, Nat.reduceAdd, Nat.reduceLeDiff, reduceCtorEq, Int.reduceLT, Int.reduceLE, Int.reduceNeg, Int.reduceSub, Int.reduceAdd, Int.reduceToNat, ↓reduceIte]
    refine Ex_loop (fun n t h => t 0 = .val (.slice none 0 0) ∧ t 1 = .val (.int .i64 k) ∧ t 5 = .val (.int .i64 0) ∧ h = H) 0 ⟨rfl, rfl, rfl, rfl⟩ ?_
    rintro J hJ n t h ⟨t0, t1, t5, rfl⟩
    simp (disch := omega) only [t0, t1, t5, go_sem, Nat.reduceEqDiff, Nat.reduceAdd, Nat.reduceLeDiff, reduceCtorEq, Int.reduceLT, Int.reduceLE, Int.reduceNeg, Int.reduceSub, Int.reduceAdd, Int.reduceToNat, ↓reduceIte]
    exact hK
  · intro l cnt lo hi E rs0 f H0 k K hT hl nd hrl hlo hhi hsh hk hb hK
    refine call_of_fnWp mixed Tryz.func24 low_laws_markStringS (fnWp_of rfl ?_)
    obtain ⟨seg, hseg⟩ : ∃ seg, seg = (rs0.take hi).drop lo := ⟨_, rfl⟩
    rw [← hseg] at hsh hb hK
    have hsl : hi - lo = seg.length := by rw [hseg, List.length_drop, List.length_take]; omega
    have hsn : seg.length ≤ cntAcc (cntEl [.str]) seg := cnt_len (c := cntEl [.str]) (fun e he => by have q := hsh e he; unfold shEl at q; obtain ⟨c, r, rfl, _, _⟩ := q; simp only [cntEl, cntCell]; omega)
    simp (disch := omega) only [lf_laws_markStringS, c_laws_markStringS, go_sem, Nat.reduceEqDiff, Nat.reduceAdd, Nat.reduceLeDiff, reduceCtorEq, Int.reduceLT, Int.reduceLE, Int.reduceNeg, Int.reduceSub, Int.reduceAdd, Int.reduceToNat, ↓reduceIte]
    refine Ex_loop (fun n t h => ∃ (i : Nat) (rs : List (List AV)), t 0 = .sub l cnt lo hi ∧ t 1 = .val (.int .i64 (mapAcc (mkEl mtext [.str]) (seg.take i) k).2) ∧ t 5 = .val (.int .i64 i) ∧ MT H0 l E 1 cnt f rs h ∧ n = seg.length - i ∧ i ≤ seg.length ∧ rs.length = cnt ∧ (rs.take hi).drop lo = (mapAcc (mkEl mtext [.str]) (seg.take i) k).1 ++ seg.drop i) seg.length ⟨0, rs0, rfl, rfl, rfl, hT, rfl, Nat.zero_le _, hrl, hseg.symm⟩ ?_
    rintro J hJ n t h ⟨i, rs, t0, t1, t5, hM, rfl, hi1, hrl1, hS⟩
    by_cases hlt : i < seg.length
    · have hA : (mapAcc (mkEl mtext [.str]) (seg.take i) k).1.length = i := by rw [mapAcc_len, List.length_take]; omega
      have hst := acc_step (g := (mkEl mtext [.str])) (k := k) hlt
      have hcn := cnt_take (c := cntEl [.str]) hlt
      have hzz : (mapAcc (mkEl mtext [.str]) (seg.take i) k).2 = k + cntAcc (cntEl [.str]) (seg.take i) := mapAcc_cnt (fun x _ k => mkEl_cnt [.str] x k) k
      have hj4 : (lo : Int) + (i : Int) < (hi : Int) := by omega
      have hj2 := (seg_at hS hA hlt).2.1
      have hsd := hsh _ (List.getElem_mem hlt)
      have hss : ∀ d, ((rs.set (lo + i) d).take hi).drop lo = ((mapAcc (mkEl mtext [.str]) (seg.take i) k).1 ++ [d]) ++ seg.drop (i + 1) := fun d => seg_step hS hA hlt
      clear hS hA
      generalize seg[i] = d at hst hcn hj2 hsd
      obtain ⟨z, hz⟩ : ∃ z, z = (mapAcc (mkEl mtext [.str]) (seg.take i) k).2 := ⟨_, rfl⟩
      rw [← hz] at hst hzz t1
      have hz0 : 0 ≤ z := by omega
      unfold shEl at hsd
      obtain ⟨_, d0, hd0, hc0, hsd⟩ := hsd
      unfold shCell at hc0
      obtain ⟨s0, rfl⟩ := hc0
      unfold shEl at hsd
      subst hsd
      subst hd0
      simp only [cntEl, cntCell, Nat.add_zero] at hcn
      obtain ⟨m, es, e, f2, r1, r2, r3, ho_0, nd2, hl2, hfin⟩ := hM.elem hl nd hj2
      obtain ⟨q0, rfl, ho_1⟩ := ho_0.inv_val
      obtain ⟨rfl, rfl⟩ := ho_1.inv_nil
      have u1 : ∀ r, (h.set l r)[l]? = some r := fun r => List.getElem?_set_self (List.getElem?_eq_some_iff.1 r1).1
      have u2 : ∀ x, (es.set (lo + i) x)[lo + i]? = some x := fun x => List.getElem?_set_self (List.getElem?_eq_some_iff.1 r3).1
      simp (disch := omega) only [t0, t1, t5, hlt, hsl, hj4, hlo, r1, r2, r3, u1, u2, List.length_set, List.set_set, go_sem, Nat.reduceEqDiff, Nat.reduceAdd, Nat.reduceLeDiff, reduceCtorEq, Int.reduceLT, Int.reduceLE, Int.reduceNeg, Int.reduceSub, Int.reduceAdd, Int.reduceToNat, ↓reduceIte]
      refine PureCall.call (markText_ok (z) (by omega) (by omega) _) ?_
      simp (disch := omega) only [t0, t1, t5, hlt, hsl, hj4, hlo, r1, r2, r3, u1, u2, List.length_set, List.set_set, go_sem, Nat.reduceEqDiff, Nat.reduceAdd, Nat.reduceLeDiff, reduceCtorEq, Int.reduceLT, Int.reduceLE, Int.reduceNeg, Int.reduceSub, Int.reduceAdd, Int.reduceToNat, ↓reduceIte]
      refine ⟨seg.length - (i + 1), by omega, hJ _ _ _ ⟨i + 1, rs.set (lo + i) _, by simp [upd, t0], by rw [hst]; simp [upd, mkEl, mkCell], by simp [upd], hfin _ _ _ ?_ (by first | exact u1 _ | exact u1 _) ?_ ?_, rfl, by omega, by simpa using hrl1, by rw [hst]; exact hss _⟩⟩
      · simp only [List.length_set]
      · intro x hx
        simp only [List.mem_cons, List.mem_append, not_or, List.append_nil, List.nil_append] at hx
        try rw [List.getElem?_set_ne (Ne.symm hx.1)]
      · simp only [mkEl, mkCell]
        exact ⟨_, (OwnL.mk_val _ (OwnL.mk_nil (Own _ (0 + 1))))⟩
    · obtain ⟨m, es, r1, r2, _⟩ := hM.out
      have e1 : seg.take i = seg := List.take_of_length_le (by omega)
      have e2 : seg.drop i = [] := List.drop_eq_nil_of_le (by omega)
      rw [e1] at t1 hS
      rw [e2, List.append_nil] at hS
      simp (disch := omega) only [t0, t1, t5, hlt, hsl, hlo, r1, r2, go_sem, Nat.reduceEqDiff, Nat.reduceAdd, Nat.reduceLeDiff, reduceCtorEq, Int.reduceLT, Int.reduceLE, Int.reduceNeg, Int.reduceSub, Int.reduceAdd, Int.reduceToNat, ↓reduceIte]
      exact hK _ rs hM hS

theorem sh_GLock (x : GLock) : shEl [.int, .int, .str, .list [.str]] (GLock.cells x) := by
  simp only [GLock.cells, shEl, shCell]
  exact ⟨_, _, rfl, ⟨_, rfl⟩, ⟨_, _, rfl, ⟨_, rfl⟩, ⟨_, _, rfl, ⟨_, rfl⟩, ⟨_, _, rfl, ⟨_, rfl, shs_StringS _⟩, rfl⟩⟩⟩⟩
theorem cntTop_GLock (x : GLock) (hb : GLock.sz x ≤ 1048576) : cntTop [.int, .int, .str, .list [.str]] (GLock.cells x) ≤ 4 * 1048576 := by
  have c0 := cntb_StringS (x.Subs)
  have hsz0 : ∀ y : GLock, GLock.sz y = ByteArray.size y.Name + (szList ByteArray.size) y.Subs := fun _ => rfl
  simp only [hsz0] at *
  simp only [GLock.cells, cntTop, cntCell]
  omega

theorem toLock_fresh (x : GLock) (hb : GLock.sz x ≤ 1048576) : FreshCall Tryz.prog 75 [.agg (GLock.cells x)] (.agg (GLock.cells x)) (fun a => ∃ l_Subs, a = .agg [.val (.int .i64 x.Job), .val (.int .i64 x.Count), .val (.string x.Name), .own l_Subs (x.Subs).length]) := by
  have hsz : GLock.sz x = ByteArray.size x.Name + (szList ByteArray.size) x.Subs := rfl
  refine fresh_fn mixed Tryz.func75 low_laws_toLock rfl (fun h0 => ?_)
  simp (disch := omega) only [lf_laws_toLock, c_laws_toLock, GLock.cells, Ex_cond, go_sem, Nat.reduceEqDiff, Nat.reduceAdd, Nat.reduceLeDiff, reduceCtorEq, Int.reduceLT, Int.reduceLE, Int.reduceNeg, Int.reduceSub, Int.reduceAdd, Int.reduceToNat, ↓reduceIte, post_cell]
  refine toStringS_fresh x.Subs (by omega) _ _ (fun av1 hn1 hf1 hq1 => ?_)
  obtain ⟨l_Subs, rfl⟩ := hq1
  simp (disch := omega) only [Ex_cond, go_sem, Nat.reduceEqDiff, Nat.reduceAdd, Nat.reduceLeDiff, reduceCtorEq, Int.reduceLT, Int.reduceLE, Int.reduceNeg, Int.reduceSub, Int.reduceAdd, Int.reduceToNat, ↓reduceIte, post_cell]
  exact ⟨_, rfl, fresh_agg (FreshLB.val _ (FreshLB.val _ (FreshLB.val _ (FreshLB.cons ((hf1.b.keep fun l q1 q2 => pre3 (t := []) (by simp) q1 q2).widen (by first | omega | (simp; done) | (simp; omega)) (Nat.le_refl _)) (FreshLB.nil _ _ _) ⟨(by first | omega | (simp; done) | (simp; omega)), (by first | omega | (simp; done) | (simp; omega))⟩)))), l_Subs, rfl⟩

theorem shs_LockS (xs : List GLock) : ∀ e ∈ xs.map GLock.cells, shEl [.int, .int, .str, .list [.str]] e := by
  intro e he
  obtain ⟨x, _, q⟩ := List.mem_map.1 he; subst q
  exact sh_GLock x
theorem cntb_LockS (xs : List GLock) : cntAcc (cntEl [.int, .int, .str, .list [.str]]) (xs.map GLock.cells) ≤ 4 * (szList GLock.sz) xs := by
  refine cnt_bound (fun x => ?_) xs
  have c0 := cntb_StringS (x.Subs)
  have hsz0 : ∀ y : GLock, GLock.sz y = ByteArray.size y.Name + (szList ByteArray.size) y.Subs := fun _ => rfl
  simp only [hsz0] at *
  simp only [GLock.cells, cntEl, cntCell]
  omega
theorem cnt_LockS (xs : List GLock) (hb : (szList GLock.sz) xs ≤ 1048576) : cntAcc (cntEl [.int, .int, .str, .list [.str]]) (xs.map GLock.cells) ≤ 4 * 1048576 := by
  have := cntb_LockS xs
  omega

theorem toLockS_fresh (xs : List GLock) (hb : (szList GLock.sz) xs ≤ 1048576) : FreshCall Tryz.prog 34 [.list 0 4 (xs.map GLock.cells)] (.list 0 4 (xs.map GLock.cells)) (fun a => ∃ l, a = .own l xs.length) := by
  have hx := Nat.le_trans (szList_length (f := GLock.sz) (xs := xs)) hb
  refine fresh_fn mixed Tryz.func34 low_laws_toLockS rfl (fun h0 => ?_)
  simp (disch := omega) only [lf_laws_toLockS, c_laws_toLockS, Ex_cond, go_sem, Nat.reduceEqDiff, Nat.reduceAdd, Nat.reduceLeDiff, reduceCtorEq, Int.reduceLT, Int.reduceLE, Int.reduceNeg, Int.reduceSub, Int.reduceAdd, Int.reduceToNat, ↓reduceIte, wrap_in]
  refine ⟨by omega, by omega, ?_⟩
  refine Ex_loop (fun n t h => ∃ (k : Nat) (done : List (List AV)) (rest : List Row), t 0 = .list 0 4 (xs.map GLock.cells) ∧ t 3 = .own h0.length xs.length ∧ t 4 = .val (.int .i64 k) ∧ h = h0 ++ ⟨74, 4, done ++ List.replicate (xs.length - k) ([.val (.int .i64 0), .val (.int .i64 0), .val (.string (txt [])), .val (.slice none 0 0)] : List AV)⟩ :: rest ∧ n = xs.length - k ∧ k ≤ xs.length ∧ done.length = k ∧ FreshLLB (h0.length + 1) h.length h done ((xs.take k).map GLock.cells)) xs.length ?_ ?_
  · exact ⟨0, [], [], rfl, rfl, rfl, by simp, rfl, Nat.zero_le _, rfl, .nil _ _ _⟩
  · rintro J hJ n t h ⟨k, done, rest, t0, t3, t4, rfl, rfl, hk, hd, hF⟩
    have fl : (done ++ List.replicate (xs.length - k) ([.val (.int .i64 0), .val (.int .i64 0), .val (.string (txt [])), .val (.slice none 0 0)] : List AV)).length = xs.length := by simp; omega
    by_cases hlt : k < xs.length
    · have e1 : xs.length - k = (xs.length - (k + 1)) + 1 := by omega
      have fg : (done ++ List.replicate (xs.length - k) ([.val (.int .i64 0), .val (.int .i64 0), .val (.string (txt [])), .val (.slice none 0 0)] : List AV))[k]? = some [.val (.int .i64 0), .val (.int .i64 0), .val (.string (txt [])), .val (.slice none 0 0)] := by rw [List.getElem?_append_right (by omega), hd, Nat.sub_self, e1]; rfl
      have fs : ∀ c : List AV, (done ++ List.replicate (xs.length - k) ([.val (.int .i64 0), .val (.int .i64 0), .val (.string (txt [])), .val (.slice none 0 0)] : List AV)).set k c = (done ++ [c]) ++ List.replicate (xs.length - (k + 1)) ([.val (.int .i64 0), .val (.int .i64 0), .val (.string (txt [])), .val (.slice none 0 0)] : List AV) := by
        intro c; rw [List.set_append_right _ _ (by omega), hd, Nat.sub_self, e1, List.replicate_succ, List.set_cons_zero, List.append_assoc]; rfl
      simp (disch := omega) only [t0, t3, t4, hlt, fl, fg, GLock.cells, Ex_cond, go_sem, Nat.reduceEqDiff, Nat.reduceAdd, Nat.reduceLeDiff, reduceCtorEq, Int.reduceLT, Int.reduceLE, Int.reduceNeg, Int.reduceSub, Int.reduceAdd, Int.reduceToNat, ↓reduceIte, wrap_in]
      refine toLock_fresh xs[k] (by have := szList_mem (f := GLock.sz) (List.getElem_mem hlt); omega) _ _ (fun av hn hf hq => ?_)
      obtain ⟨l_Subs, rfl⟩ := hq
      simp (disch := omega) only [t0, t3, t4, hlt, fl, fg, fs, Ex_cond, go_sem, Nat.reduceEqDiff, Nat.reduceAdd, Nat.reduceLeDiff, reduceCtorEq, Int.reduceLT, Int.reduceLE, Int.reduceNeg, Int.reduceSub, Int.reduceAdd, Int.reduceToNat, ↓reduceIte, wrap_in]
      refine ⟨xs.length - (k + 1), by omega, hJ _ _ _ ⟨k + 1, done ++ [[.val (.int .i64 xs[k].Job), .val (.int .i64 xs[k].Count), .val (.string xs[k].Name), .own l_Subs (xs[k].Subs).length]], rest ++ hn, by simp [upd, t0], by simp [upd, t3], by simp [upd], by simp, rfl, by omega, by simp [hd], ?_⟩⟩
      rw [List.take_succ_eq_append_getElem hlt, List.map_append]
      have hz := fresh_round (r' := ⟨74, 4, (done ++ [[.val (.int .i64 xs[k].Job), .val (.int .i64 xs[k].Count), .val (.string xs[k].Name), .own l_Subs (xs[k].Subs).length]]) ++ List.replicate (xs.length - (k + 1)) ([.val (.int .i64 0), .val (.int .i64 0), .val (.string (txt [])), .val (.slice none 0 0)] : List AV)⟩) hF hf
      first | exact hz | simpa using hz
    · simp (disch := omega) only [t0, t3, t4, hlt, fl, Ex_cond, go_sem, Nat.reduceEqDiff, Nat.reduceAdd, Nat.reduceLeDiff, reduceCtorEq, Int.reduceLT, Int.reduceLE, Int.reduceNeg, Int.reduceSub, Int.reduceAdd, Int.reduceToNat, ↓reduceIte, wrap_in]
      have e1 : xs.length - k = 0 := by omega
      rw [e1, List.replicate_zero, List.append_nil, List.take_of_length_le (by omega)] at hF
      rw [e1, List.replicate_zero, List.append_nil]
      exact ⟨_, rfl, fresh_done hF (by omega), _, rfl⟩

theorem markLockS_mk : MarkC Tryz.prog 41 mtext [.int, .int, .str, .list [.str]] := by
  refine MarkC.of ?_ ?_
  · intro H k K hK
    refine call_of_fnWp mixed Tryz.func41 low_laws_markLockS (fnWp_of rfl ?_)
    simp (disch := omega) only [lf_laws_markLockS, c_laws_markLockS, go_sem, Nat.reduceEqDiff, Nat.reduceAdd, Nat.reduceLeDiff, reduceCtorEq, Int.reduceLT, Int.reduceLE, Int.reduceNeg, Int.reduceSub, Int.reduceAdd, Int.reduceToNat, ↓reduceIte]
    refine Ex_loop (fun n t h => t 0 = .val (.slice none 0 0) ∧ t 1 = .val (.int .i64 k) ∧ t 5 = .val (.int .i64 0) ∧ h = H) 0 ⟨rfl, rfl, rfl, rfl⟩ ?_
    rintro J hJ n t h ⟨t0, t1, t5, rfl⟩
    simp (disch := omega) only [t0, t1, t5, go_sem, Nat.reduceEqDiff, Nat.reduceAdd, Nat.reduceLeDiff, reduceCtorEq, Int.reduceLT, Int.reduceLE, Int.reduceNeg, Int.reduceSub, Int.reduceAdd, Int.reduceToNat, ↓reduceIte]
    exact hK
  · intro l cnt lo hi E rs0 f H0 k K hT hl nd hrl hlo hhi hsh hk hb hK
    refine call_of_fnWp mixed Tryz.func41 low_laws_markLockS (fnWp_of rfl ?_)
    obtain ⟨seg, hseg⟩ : ∃ seg, seg = (rs0.take hi).drop lo := ⟨_, rfl⟩
    rw [← hseg] at hsh hb hK
    have hsl : hi - lo = seg.length := by rw [hseg, List.length_drop, List.length_take]; omega
    have hsn : seg.length ≤ cntAcc (cntEl [.int, .int, .str, .list [.str]]) seg := cnt_len (c := cntEl [.int, .int, .str, .list [.str]]) (fun e he => by have q := hsh e he; unfold shEl at q; obtain ⟨c, r, rfl, _, _⟩ := q; simp only [cntEl, cntCell]; omega)
    simp (disch := omega) only [lf_laws_markLockS, c_laws_markLockS, go_sem, Nat.reduceEqDiff, Nat.reduceAdd, Nat.reduceLeDiff, reduceCtorEq, Int.reduceLT, Int.reduceLE, Int.reduceNeg, Int.reduceSub, Int.reduceAdd, Int.reduceToNat, ↓reduceIte]
    refine Ex_loop (fun n t h => ∃ (i : Nat) (rs : List (List AV)), t 0 = .sub l cnt lo hi ∧ t 1 = .val (.int .i64 (mapAcc (mkEl mtext [.int, .int, .str, .list [.str]]) (seg.take i) k).2) ∧ t 5 = .val (.int .i64 i) ∧ MT H0 l E 4 cnt f rs h ∧ n = seg.length - i ∧ i ≤ seg.length ∧ rs.length = cnt ∧ (rs.take hi).drop lo = (mapAcc (mkEl mtext [.int, .int, .str, .list [.str]]) (seg.take i) k).1 ++ seg.drop i) seg.length ⟨0, rs0, rfl, rfl, rfl, hT, rfl, Nat.zero_le _, hrl, hseg.symm⟩ ?_
    rintro J hJ n t h ⟨i, rs, t0, t1, t5, hM, rfl, hi1, hrl1, hS⟩
    by_cases hlt : i < seg.length
    · have hA : (mapAcc (mkEl mtext [.int, .int, .str, .list [.str]]) (seg.take i) k).1.length = i := by rw [mapAcc_len, List.length_take]; omega
      have hst := acc_step (g := (mkEl mtext [.int, .int, .str, .list [.str]])) (k := k) hlt
      have hcn := cnt_take (c := cntEl [.int, .int, .str, .list [.str]]) hlt
      have hzz : (mapAcc (mkEl mtext [.int, .int, .str, .list [.str]]) (seg.take i) k).2 = k + cntAcc (cntEl [.int, .int, .str, .list [.str]]) (seg.take i) := mapAcc_cnt (fun x _ k => mkEl_cnt [.int, .int, .str, .list [.str]] x k) k
      have hj4 : (lo : Int) + (i : Int) < (hi : Int) := by omega
      have hj2 := (seg_at hS hA hlt).2.1
      have hsd := hsh _ (List.getElem_mem hlt)
      have hss : ∀ d, ((rs.set (lo + i) d).take hi).drop lo = ((mapAcc (mkEl mtext [.int, .int, .str, .list [.str]]) (seg.take i) k).1 ++ [d]) ++ seg.drop (i + 1) := fun d => seg_step hS hA hlt
      clear hS hA
      generalize seg[i] = d at hst hcn hj2 hsd
      obtain ⟨z, hz⟩ : ∃ z, z = (mapAcc (mkEl mtext [.int, .int, .str, .list [.str]]) (seg.take i) k).2 := ⟨_, rfl⟩
      rw [← hz] at hst hzz t1
      have hz0 : 0 ≤ z := by omega
      unfold shEl at hsd
      obtain ⟨_, d0, hd0, hc0, hsd⟩ := hsd
      unfold shCell at hc0
      obtain ⟨n0, rfl⟩ := hc0
      unfold shEl at hsd
      obtain ⟨_, d1, hd1, hc1, hsd⟩ := hsd
      unfold shCell at hc1
      obtain ⟨n1, rfl⟩ := hc1
      unfold shEl at hsd
      obtain ⟨_, d2, hd2, hc2, hsd⟩ := hsd
      unfold shCell at hc2
      obtain ⟨s2, rfl⟩ := hc2
      unfold shEl at hsd
      obtain ⟨_, d3, hd3, hc3, hsd⟩ := hsd
      unfold shCell at hc3
      obtain ⟨e3, rfl, hc3⟩ := hc3
      unfold shEl at hsd
      subst hsd
      subst hd3
      subst hd2
      subst hd1
      subst hd0
      simp only [cntEl, cntCell, Nat.add_zero] at hcn
      obtain ⟨m, es, e, f2, r1, r2, r3, ho_0, nd2, hl2, hfin⟩ := hM.elem hl nd hj2
      obtain ⟨q0, rfl, ho_1⟩ := ho_0.inv_val
      obtain ⟨q1, rfl, ho_2⟩ := ho_1.inv_val
      obtain ⟨q2, rfl, ho_3⟩ := ho_2.inv_val
      obtain ⟨c3, q3, g3, w3, rfl, rfl, hw3, ho_4⟩ := ho_3.inv_cons
      obtain ⟨rfl, rfl⟩ := ho_4.inv_nil
      simp only [List.nodup_append, List.mem_append, List.append_nil, List.nil_append] at nd2 hl2
      have nd_3 : g3.Nodup := by first | exact nd2 | exact nd2.1 | exact nd2.2.1 | (simp_all; done)
      have hl_3 : l ∉ g3 := fun q => hl2 (by simp [q])
      have u1 : ∀ r, (h.set l r)[l]? = some r := fun r => List.getElem?_set_self (List.getElem?_eq_some_iff.1 r1).1
      have u2 : ∀ x, (es.set (lo + i) x)[lo + i]? = some x := fun x => List.getElem?_set_self (List.getElem?_eq_some_iff.1 r3).1
      simp (disch := omega) only [t0, t1, t5, hlt, hsl, hj4, hlo, r1, r2, r3, u1, u2, List.length_set, List.set_set, go_sem, Nat.reduceEqDiff, Nat.reduceAdd, Nat.reduceLeDiff, reduceCtorEq, Int.reduceLT, Int.reduceLE, Int.reduceNeg, Int.reduceSub, Int.reduceAdd, Int.reduceToNat, ↓reduceIte]
      refine PureCall.call (markText_ok (z + 1 + 1) (by omega) (by omega) _) ?_
      simp (disch := omega) only [t0, t1, t5, hlt, hsl, hj4, hlo, r1, r2, r3, u1, u2, List.length_set, List.set_set, go_sem, Nat.reduceEqDiff, Nat.reduceAdd, Nat.reduceLeDiff, reduceCtorEq, Int.reduceLT, Int.reduceLE, Int.reduceNeg, Int.reduceSub, Int.reduceAdd, Int.reduceToNat, ↓reduceIte]
      refine markStringS_mk _ c3 e3 g3 _ (z + 1 + 1 + 1) _ (hw3.keep fun x hx => ?_) nd_3 hc3 (by omega) (by omega) (fun H1 m1 x1 y1 v1 => ?_)
      · first | rfl | exact List.getElem?_set_ne (by rintro rfl; exact hl_3 hx)
      have hq3 : (mapAcc (mkEl mtext [.str]) e3 (z + 1 + 1 + 1)).2 = z + 1 + 1 + 1 + (cntAcc (cntEl [.str]) e3 : Nat) := mapAcc_cnt (fun x _ k => mkEl_cnt _ x k) _
      have p1 := (y1 l hl_3).trans (by first | exact u1 _ | exact r1)
      have un1 : ∀ r, (H1.set l r)[l]? = some r := fun r => List.getElem?_set_self (List.getElem?_eq_some_iff.1 p1).1
      simp (disch := omega) only [t0, t1, t5, hlt, hsl, hj4, hlo, r1, r2, r3, u1, u2, List.length_set, List.set_set, p1, un1, go_sem, Nat.reduceEqDiff, Nat.reduceAdd, Nat.reduceLeDiff, reduceCtorEq, Int.reduceLT, Int.reduceLE, Int.reduceNeg, Int.reduceSub, Int.reduceAdd, Int.reduceToNat, ↓reduceIte]
      refine ⟨seg.length - (i + 1), by omega, hJ _ _ _ ⟨i + 1, rs.set (lo + i) _, by simp [upd, t0], by rw [hst]; simp [upd, mkEl, mkCell], by simp [upd], hfin _ _ _ ?_ (by first | exact un1 _ | exact p1) ?_ ?_, rfl, by omega, by simpa using hrl1, by rw [hst]; exact hss _⟩⟩
      · simp only [List.length_set, x1]
      · intro x hx
        simp only [List.mem_cons, List.mem_append, not_or, List.append_nil, List.nil_append] at hx
        try rw [List.getElem?_set_ne (Ne.symm hx.1)]
        rw [y1 x (by intro hq; first | (simp_all; done) | exact nd.2.2 _ hq _ hx rfl | exact nd.2.2 _ hx _ hq rfl | grind)]
        try rw [List.getElem?_set_ne (Ne.symm hx.1)]
      · simp only [mkEl, mkCell]
        exact ⟨_, (OwnL.mk_val _ (OwnL.mk_val _ (OwnL.mk_val _ (OwnL.mk_list (v1.keep fun x hx => by first | rfl | ((try rw [List.getElem?_set_ne (by rintro rfl; exact hl_3 hx)]))) (OwnL.mk_nil (Own _ (0 + 1)))))))⟩
    · obtain ⟨m, es, r1, r2, _⟩ := hM.out
      have e1 : seg.take i = seg := List.take_of_length_le (by omega)
      have e2 : seg.drop i = [] := List.drop_eq_nil_of_le (by omega)
      rw [e1] at t1 hS
      rw [e2, List.append_nil] at hS
      simp (disch := omega) only [t0, t1, t5, hlt, hsl, hlo, r1, r2, go_sem, Nat.reduceEqDiff, Nat.reduceAdd, Nat.reduceLeDiff, reduceCtorEq, Int.reduceLT, Int.reduceLE, Int.reduceNeg, Int.reduceSub, Int.reduceAdd, Int.reduceToNat, ↓reduceIte]
      exact hK _ rs hM hS

theorem sh_GAsk (x : GAsk) : shEl [.int, .int, .str, .list [.str]] (GAsk.cells x) := by
  simp only [GAsk.cells, shEl, shCell]
  exact ⟨_, _, rfl, ⟨_, rfl⟩, ⟨_, _, rfl, ⟨_, rfl⟩, ⟨_, _, rfl, ⟨_, rfl⟩, ⟨_, _, rfl, ⟨_, rfl, shs_StringS _⟩, rfl⟩⟩⟩⟩
theorem cntTop_GAsk (x : GAsk) (hb : GAsk.sz x ≤ 1048576) : cntTop [.int, .int, .str, .list [.str]] (GAsk.cells x) ≤ 4 * 1048576 := by
  have c0 := cntb_StringS (x.Subs)
  have hsz0 : ∀ y : GAsk, GAsk.sz y = ByteArray.size y.Name + (szList ByteArray.size) y.Subs := fun _ => rfl
  simp only [hsz0] at *
  simp only [GAsk.cells, cntTop, cntCell]
  omega

theorem toAsk_fresh (x : GAsk) (hb : GAsk.sz x ≤ 1048576) : FreshCall Tryz.prog 76 [.agg (GAsk.cells x)] (.agg (GAsk.cells x)) (fun a => ∃ l_Subs, a = .agg [.val (.int .i64 x.Job), .val (.int .i64 x.Until), .val (.string x.Name), .own l_Subs (x.Subs).length]) := by
  have hsz : GAsk.sz x = ByteArray.size x.Name + (szList ByteArray.size) x.Subs := rfl
  refine fresh_fn mixed Tryz.func76 low_laws_toAsk rfl (fun h0 => ?_)
  simp (disch := omega) only [lf_laws_toAsk, c_laws_toAsk, GAsk.cells, Ex_cond, go_sem, Nat.reduceEqDiff, Nat.reduceAdd, Nat.reduceLeDiff, reduceCtorEq, Int.reduceLT, Int.reduceLE, Int.reduceNeg, Int.reduceSub, Int.reduceAdd, Int.reduceToNat, ↓reduceIte, post_cell]
  refine toStringS_fresh x.Subs (by omega) _ _ (fun av1 hn1 hf1 hq1 => ?_)
  obtain ⟨l_Subs, rfl⟩ := hq1
  simp (disch := omega) only [Ex_cond, go_sem, Nat.reduceEqDiff, Nat.reduceAdd, Nat.reduceLeDiff, reduceCtorEq, Int.reduceLT, Int.reduceLE, Int.reduceNeg, Int.reduceSub, Int.reduceAdd, Int.reduceToNat, ↓reduceIte, post_cell]
  exact ⟨_, rfl, fresh_agg (FreshLB.val _ (FreshLB.val _ (FreshLB.val _ (FreshLB.cons ((hf1.b.keep fun l q1 q2 => pre3 (t := []) (by simp) q1 q2).widen (by first | omega | (simp; done) | (simp; omega)) (Nat.le_refl _)) (FreshLB.nil _ _ _) ⟨(by first | omega | (simp; done) | (simp; omega)), (by first | omega | (simp; done) | (simp; omega))⟩)))), l_Subs, rfl⟩

theorem shs_AskS (xs : List GAsk) : ∀ e ∈ xs.map GAsk.cells, shEl [.int, .int, .str, .list [.str]] e := by
  intro e he
  obtain ⟨x, _, q⟩ := List.mem_map.1 he; subst q
  exact sh_GAsk x
theorem cntb_AskS (xs : List GAsk) : cntAcc (cntEl [.int, .int, .str, .list [.str]]) (xs.map GAsk.cells) ≤ 4 * (szList GAsk.sz) xs := by
  refine cnt_bound (fun x => ?_) xs
  have c0 := cntb_StringS (x.Subs)
  have hsz0 : ∀ y : GAsk, GAsk.sz y = ByteArray.size y.Name + (szList ByteArray.size) y.Subs := fun _ => rfl
  simp only [hsz0] at *
  simp only [GAsk.cells, cntEl, cntCell]
  omega
theorem cnt_AskS (xs : List GAsk) (hb : (szList GAsk.sz) xs ≤ 1048576) : cntAcc (cntEl [.int, .int, .str, .list [.str]]) (xs.map GAsk.cells) ≤ 4 * 1048576 := by
  have := cntb_AskS xs
  omega

theorem toAskS_fresh (xs : List GAsk) (hb : (szList GAsk.sz) xs ≤ 1048576) : FreshCall Tryz.prog 35 [.list 0 4 (xs.map GAsk.cells)] (.list 0 4 (xs.map GAsk.cells)) (fun a => ∃ l, a = .own l xs.length) := by
  have hx := Nat.le_trans (szList_length (f := GAsk.sz) (xs := xs)) hb
  refine fresh_fn mixed Tryz.func35 low_laws_toAskS rfl (fun h0 => ?_)
  simp (disch := omega) only [lf_laws_toAskS, c_laws_toAskS, Ex_cond, go_sem, Nat.reduceEqDiff, Nat.reduceAdd, Nat.reduceLeDiff, reduceCtorEq, Int.reduceLT, Int.reduceLE, Int.reduceNeg, Int.reduceSub, Int.reduceAdd, Int.reduceToNat, ↓reduceIte, wrap_in]
  refine ⟨by omega, by omega, ?_⟩
  refine Ex_loop (fun n t h => ∃ (k : Nat) (done : List (List AV)) (rest : List Row), t 0 = .list 0 4 (xs.map GAsk.cells) ∧ t 3 = .own h0.length xs.length ∧ t 4 = .val (.int .i64 k) ∧ h = h0 ++ ⟨64, 4, done ++ List.replicate (xs.length - k) ([.val (.int .i64 0), .val (.int .i64 0), .val (.string (txt [])), .val (.slice none 0 0)] : List AV)⟩ :: rest ∧ n = xs.length - k ∧ k ≤ xs.length ∧ done.length = k ∧ FreshLLB (h0.length + 1) h.length h done ((xs.take k).map GAsk.cells)) xs.length ?_ ?_
  · exact ⟨0, [], [], rfl, rfl, rfl, by simp, rfl, Nat.zero_le _, rfl, .nil _ _ _⟩
  · rintro J hJ n t h ⟨k, done, rest, t0, t3, t4, rfl, rfl, hk, hd, hF⟩
    have fl : (done ++ List.replicate (xs.length - k) ([.val (.int .i64 0), .val (.int .i64 0), .val (.string (txt [])), .val (.slice none 0 0)] : List AV)).length = xs.length := by simp; omega
    by_cases hlt : k < xs.length
    · have e1 : xs.length - k = (xs.length - (k + 1)) + 1 := by omega
      have fg : (done ++ List.replicate (xs.length - k) ([.val (.int .i64 0), .val (.int .i64 0), .val (.string (txt [])), .val (.slice none 0 0)] : List AV))[k]? = some [.val (.int .i64 0), .val (.int .i64 0), .val (.string (txt [])), .val (.slice none 0 0)] := by rw [List.getElem?_append_right (by omega), hd, Nat.sub_self, e1]; rfl
      have fs : ∀ c : List AV, (done ++ List.replicate (xs.length - k) ([.val (.int .i64 0), .val (.int .i64 0), .val (.string (txt [])), .val (.slice none 0 0)] : List AV)).set k c = (done ++ [c]) ++ List.replicate (xs.length - (k + 1)) ([.val (.int .i64 0), .val (.int .i64 0), .val (.string (txt [])), .val (.slice none 0 0)] : List AV) := by
        intro c; rw [List.set_append_right _ _ (by omega), hd, Nat.sub_self, e1, List.replicate_succ, List.set_cons_zero, List.append_assoc]; rfl
      simp (disch := omega) only [t0, t3, t4, hlt, fl, fg, GAsk.cells, Ex_cond, go_sem, Nat.reduceEqDiff, Nat.reduceAdd, Nat.reduceLeDiff, reduceCtorEq, Int.reduceLT, Int.reduceLE, Int.reduceNeg, Int.reduceSub, Int.reduceAdd, Int.reduceToNat, ↓reduceIte, wrap_in]
      refine toAsk_fresh xs[k] (by have := szList_mem (f := GAsk.sz) (List.getElem_mem hlt); omega) _ _ (fun av hn hf hq => ?_)
      obtain ⟨l_Subs, rfl⟩ := hq
      simp (disch := omega) only [t0, t3, t4, hlt, fl, fg, fs, Ex_cond, go_sem, Nat.reduceEqDiff, Nat.reduceAdd, Nat.reduceLeDiff, reduceCtorEq, Int.reduceLT, Int.reduceLE, Int.reduceNeg, Int.reduceSub, Int.reduceAdd, Int.reduceToNat, ↓reduceIte, wrap_in]
      refine ⟨xs.length - (k + 1), by omega, hJ _ _ _ ⟨k + 1, done ++ [[.val (.int .i64 xs[k].Job), .val (.int .i64 xs[k].Until), .val (.string xs[k].Name), .own l_Subs (xs[k].Subs).length]], rest ++ hn, by simp [upd, t0], by simp [upd, t3], by simp [upd], by simp, rfl, by omega, by simp [hd], ?_⟩⟩
      rw [List.take_succ_eq_append_getElem hlt, List.map_append]
      have hz := fresh_round (r' := ⟨64, 4, (done ++ [[.val (.int .i64 xs[k].Job), .val (.int .i64 xs[k].Until), .val (.string xs[k].Name), .own l_Subs (xs[k].Subs).length]]) ++ List.replicate (xs.length - (k + 1)) ([.val (.int .i64 0), .val (.int .i64 0), .val (.string (txt [])), .val (.slice none 0 0)] : List AV)⟩) hF hf
      first | exact hz | simpa using hz
    · simp (disch := omega) only [t0, t3, t4, hlt, fl, Ex_cond, go_sem, Nat.reduceEqDiff, Nat.reduceAdd, Nat.reduceLeDiff, reduceCtorEq, Int.reduceLT, Int.reduceLE, Int.reduceNeg, Int.reduceSub, Int.reduceAdd, Int.reduceToNat, ↓reduceIte, wrap_in]
      have e1 : xs.length - k = 0 := by omega
      rw [e1, List.replicate_zero, List.append_nil, List.take_of_length_le (by omega)] at hF
      rw [e1, List.replicate_zero, List.append_nil]
      exact ⟨_, rfl, fresh_done hF (by omega), _, rfl⟩

theorem markAskS_mk : MarkC Tryz.prog 42 mtext [.int, .int, .str, .list [.str]] := by
  refine MarkC.of ?_ ?_
  · intro H k K hK
    refine call_of_fnWp mixed Tryz.func42 low_laws_markAskS (fnWp_of rfl ?_)
    simp (disch := omega) only [lf_laws_markAskS, c_laws_markAskS, go_sem, Nat.reduceEqDiff, Nat.reduceAdd, Nat.reduceLeDiff, reduceCtorEq, Int.reduceLT, Int.reduceLE, Int.reduceNeg, Int.reduceSub, Int.reduceAdd, Int.reduceToNat, ↓reduceIte]
    refine Ex_loop (fun n t h => t 0 = .val (.slice none 0 0) ∧ t 1 = .val (.int .i64 k) ∧ t 5 = .val (.int .i64 0) ∧ h = H) 0 ⟨rfl, rfl, rfl, rfl⟩ ?_
    rintro J hJ n t h ⟨t0, t1, t5, rfl⟩
    simp (disch := omega) only [t0, t1, t5, go_sem, Nat.reduceEqDiff, Nat.reduceAdd, Nat.reduceLeDiff, reduceCtorEq, Int.reduceLT, Int.reduceLE, Int.reduceNeg, Int.reduceSub, Int.reduceAdd, Int.reduceToNat, ↓reduceIte]
    exact hK
  · intro l cnt lo hi E rs0 f H0 k K hT hl nd hrl hlo hhi hsh hk hb hK
    refine call_of_fnWp mixed Tryz.func42 low_laws_markAskS (fnWp_of rfl ?_)
    obtain ⟨seg, hseg⟩ : ∃ seg, seg = (rs0.take hi).drop lo := ⟨_, rfl⟩
    rw [← hseg] at hsh hb hK
    have hsl : hi - lo = seg.length := by rw [hseg, List.length_drop, List.length_take]; omega
    have hsn : seg.length ≤ cntAcc (cntEl [.int, .int, .str, .list [.str]]) seg := cnt_len (c := cntEl [.int, .int, .str, .list [.str]]) (fun e he => by have q := hsh e he; unfold shEl at q; obtain ⟨c, r, rfl, _, _⟩ := q; simp only [cntEl, cntCell]; omega)
    simp (disch := omega) only [lf_laws_markAskS, c_laws_markAskS, go_sem, Nat.reduceEqDiff, Nat.reduceAdd, Nat.reduceLeDiff, reduceCtorEq, Int.reduceLT, Int.reduceLE, Int.reduceNeg, Int.reduceSub, Int.reduceAdd, Int.reduceToNat, ↓reduceIte]
    refine Ex_loop (fun n t h => ∃ (i : Nat) (rs : List (List AV)), t 0 = .sub l cnt lo hi ∧ t 1 = .val (.int .i64 (mapAcc (mkEl mtext [.int, .int, .str, .list [.str]]) (seg.take i) k).2) ∧ t 5 = .val (.int .i64 i) ∧ MT H0 l E 4 cnt f rs h ∧ n = seg.length - i ∧ i ≤ seg.length ∧ rs.length = cnt ∧ (rs.take hi).drop lo = (mapAcc (mkEl mtext [.int, .int, .str, .list [.str]]) (seg.take i) k).1 ++ seg.drop i) seg.length ⟨0, rs0, rfl, rfl, rfl, hT, rfl, Nat.zero_le _, hrl, hseg.symm⟩ ?_
    rintro J hJ n t h ⟨i, rs, t0, t1, t5, hM, rfl, hi1, hrl1, hS⟩
    by_cases hlt : i < seg.length
    · have hA : (mapAcc (mkEl mtext [.int, .int, .str, .list [.str]]) (seg.take i) k).1.length = i := by rw [mapAcc_len, List.length_take]; omega
      have hst := acc_step (g := (mkEl mtext [.int, .int, .str, .list [.str]])) (k := k) hlt
      have hcn := cnt_take (c := cntEl [.int, .int, .str, .list [.str]]) hlt
      have hzz : (mapAcc (mkEl mtext [.int, .int, .str, .list [.str]]) (seg.take i) k).2 = k + cntAcc (cntEl [.int, .int, .str, .list [.str]]) (seg.take i) := mapAcc_cnt (fun x _ k => mkEl_cnt [.int, .int, .str, .list [.str]] x k) k
      have hj4 : (lo : Int) + (i : Int) < (hi : Int) := by omega
      have hj2 := (seg_at hS hA hlt).2.1
      have hsd := hsh _ (List.getElem_mem hlt)
      have hss : ∀ d, ((rs.set (lo + i) d).take hi).drop lo = ((mapAcc (mkEl mtext [.int, .int, .str, .list [.str]]) (seg.take i) k).1 ++ [d]) ++ seg.drop (i + 1) := fun d => seg_step hS hA hlt
      clear hS hA
      generalize seg[i] = d at hst hcn hj2 hsd
      obtain ⟨z, hz⟩ : ∃ z, z = (mapAcc (mkEl mtext [.int, .int, .str, .list [.str]]) (seg.take i) k).2 := ⟨_, rfl⟩
      rw [← hz] at hst hzz t1
      have hz0 : 0 ≤ z := by omega
      unfold shEl at hsd
      obtain ⟨_, d0, hd0, hc0, hsd⟩ := hsd
      unfold shCell at hc0
      obtain ⟨n0, rfl⟩ := hc0
      unfold shEl at hsd
      obtain ⟨_, d1, hd1, hc1, hsd⟩ := hsd
      unfold shCell at hc1
      obtain ⟨n1, rfl⟩ := hc1
      unfold shEl at hsd
      obtain ⟨_, d2, hd2, hc2, hsd⟩ := hsd
      unfold shCell at hc2
      obtain ⟨s2, rfl⟩ := hc2
      unfold shEl at hsd
      obtain ⟨_, d3, hd3, hc3, hsd⟩ := hsd
      unfold shCell at hc3
      obtain ⟨e3, rfl, hc3⟩ := hc3
      unfold shEl at hsd
      subst hsd
      subst hd3
      subst hd2
      subst hd1
      subst hd0
      simp only [cntEl, cntCell, Nat.add_zero] at hcn
      obtain ⟨m, es, e, f2, r1, r2, r3, ho_0, nd2, hl2, hfin⟩ := hM.elem hl nd hj2
      obtain ⟨q0, rfl, ho_1⟩ := ho_0.inv_val
      obtain ⟨q1, rfl, ho_2⟩ := ho_1.inv_val
      obtain ⟨q2, rfl, ho_3⟩ := ho_2.inv_val
      obtain ⟨c3, q3, g3, w3, rfl, rfl, hw3, ho_4⟩ := ho_3.inv_cons
      obtain ⟨rfl, rfl⟩ := ho_4.inv_nil
      simp only [List.nodup_append, List.mem_append, List.append_nil, List.nil_append] at nd2 hl2
      have nd_3 : g3.Nodup := by first | exact nd2 | exact nd2.1 | exact nd2.2.1 | (simp_all; done)
      have hl_3 : l ∉ g3 := fun q => hl2 (by simp [q])
      have u1 : ∀ r, (h.set l r)[l]? = some r := fun r => List.getElem?_set_self (List.getElem?_eq_some_iff.1 r1).1
      have u2 : ∀ x, (es.set (lo + i) x)[lo + i]? = some x := fun x => List.getElem?_set_self (List.getElem?_eq_some_iff.1 r3).1
      simp (disch := omega) only [t0, t1, t5, hlt, hsl, hj4, hlo, r1, r2, r3, u1, u2, List.length_set, List.set_set, go_sem, Nat.reduceEqDiff, Nat.reduceAdd, Nat.reduceLeDiff, reduceCtorEq, Int.reduceLT, Int.reduceLE, Int.reduceNeg, Int.reduceSub, Int.reduceAdd, Int.reduceToNat, ↓reduceIte]
      refine PureCall.call (markText_ok (z + 1 + 1) (by omega) (by omega) _) ?_
      simp (disch := omega) only [t0, t1, t5, hlt, hsl, hj4, hlo, r1, r2, r3, u1, u2, List.length_set, List.set_set, go_sem, Nat.reduceEqDiff, Nat.reduceAdd, Nat.reduceLeDiff, reduceCtorEq, Int.reduceLT, Int.reduceLE, Int.reduceNeg, Int.reduceSub, Int.reduceAdd, Int.reduceToNat, ↓reduceIte]
      refine markStringS_mk _ c3 e3 g3 _ (z + 1 + 1 + 1) _ (hw3.keep fun x hx => ?_) nd_3 hc3 (by omega) (by omega) (fun H1 m1 x1 y1 v1 => ?_)
      · first | rfl | exact List.getElem?_set_ne (by rintro rfl; exact hl_3 hx)
      have hq3 : (mapAcc (mkEl mtext [.str]) e3 (z + 1 + 1 + 1)).2 = z + 1 + 1 + 1 + (cntAcc (cntEl [.str]) e3 : Nat) := mapAcc_cnt (fun x _ k => mkEl_cnt _ x k) _
      have p1 := (y1 l hl_3).trans (by first | exact u1 _ | exact r1)
      have un1 : ∀ r, (H1.set l r)[l]? = some r := fun r => List.getElem?_set_self (List.getElem?_eq_some_iff.1 p1).1
      simp (disch := omega) only [t0, t1, t5, hlt, hsl, hj4, hlo, r1, r2, r3, u1, u2, List.length_set, List.set_set, p1, un1, go_sem, Nat.reduceEqDiff, Nat.reduceAdd, Nat.reduceLeDiff, reduceCtorEq, Int.reduceLT, Int.reduceLE, Int.reduceNeg, Int.reduceSub, Int.reduceAdd, Int.reduceToNat, ↓reduceIte]
      refine ⟨seg.length - (i + 1), by omega, hJ _ _ _ ⟨i + 1, rs.set (lo + i) _, by simp [upd, t0], by rw [hst]; simp [upd, mkEl, mkCell], by simp [upd], hfin _ _ _ ?_ (by first | exact un1 _ | exact p1) ?_ ?_, rfl, by omega, by simpa using hrl1, by rw [hst]; exact hss _⟩⟩
      · simp only [List.length_set, x1]
      · intro x hx
        simp only [List.mem_cons, List.mem_append, not_or, List.append_nil, List.nil_append] at hx
        try rw [List.getElem?_set_ne (Ne.symm hx.1)]
        rw [y1 x (by intro hq; first | (simp_all; done) | exact nd.2.2 _ hq _ hx rfl | exact nd.2.2 _ hx _ hq rfl | grind)]
        try rw [List.getElem?_set_ne (Ne.symm hx.1)]
      · simp only [mkEl, mkCell]
        exact ⟨_, (OwnL.mk_val _ (OwnL.mk_val _ (OwnL.mk_val _ (OwnL.mk_list (v1.keep fun x hx => by first | rfl | ((try rw [List.getElem?_set_ne (by rintro rfl; exact hl_3 hx)]))) (OwnL.mk_nil (Own _ (0 + 1)))))))⟩
    · obtain ⟨m, es, r1, r2, _⟩ := hM.out
      have e1 : seg.take i = seg := List.take_of_length_le (by omega)
      have e2 : seg.drop i = [] := List.drop_eq_nil_of_le (by omega)
      rw [e1] at t1 hS
      rw [e2, List.append_nil] at hS
      simp (disch := omega) only [t0, t1, t5, hlt, hsl, hlo, r1, r2, go_sem, Nat.reduceEqDiff, Nat.reduceAdd, Nat.reduceLeDiff, reduceCtorEq, Int.reduceLT, Int.reduceLE, Int.reduceNeg, Int.reduceSub, Int.reduceAdd, Int.reduceToNat, ↓reduceIte]
      exact hK _ rs hM hS

theorem sh_GLocks (x : GLocks) : shEl [.list [.int, .int, .str, .list [.str]], .list [.int, .int, .str, .list [.str]]] (GLocks.cells x) := by
  simp only [GLocks.cells, shEl, shCell]
  exact ⟨_, _, rfl, ⟨_, rfl, shs_LockS _⟩, ⟨_, _, rfl, ⟨_, rfl, shs_AskS _⟩, rfl⟩⟩
theorem cntTop_GLocks (x : GLocks) (hb : GLocks.sz x ≤ 1048576) : cntTop [.list [.int, .int, .str, .list [.str]], .list [.int, .int, .str, .list [.str]]] (GLocks.cells x) ≤ 8 * 1048576 := by
  have c0 := cntb_LockS (x.Held)
  have c1 := cntb_AskS (x.Asks)
  have hsz0 : ∀ y : GLocks, GLocks.sz y = (szList GLock.sz) y.Held + (szList GAsk.sz) y.Asks := fun _ => rfl
  simp only [hsz0] at *
  simp only [GLocks.cells, cntTop, cntCell]
  omega

theorem toLocks_fresh (x : GLocks) (hb : GLocks.sz x ≤ 1048576) : FreshCall Tryz.prog 10 [.agg (GLocks.cells x)] (.agg (GLocks.cells x)) (fun a => ∃ l_Held l_Asks, a = .agg [.own l_Held (x.Held).length, .own l_Asks (x.Asks).length]) := by
  have hsz : GLocks.sz x = (szList GLock.sz) x.Held + (szList GAsk.sz) x.Asks := rfl
  refine fresh_fn mixed Tryz.func10 low_laws_toLocks rfl (fun h0 => ?_)
  simp (disch := omega) only [lf_laws_toLocks, c_laws_toLocks, GLocks.cells, Ex_cond, go_sem, Nat.reduceEqDiff, Nat.reduceAdd, Nat.reduceLeDiff, reduceCtorEq, Int.reduceLT, Int.reduceLE, Int.reduceNeg, Int.reduceSub, Int.reduceAdd, Int.reduceToNat, ↓reduceIte, post_cell]
  refine toLockS_fresh x.Held (by omega) _ _ (fun av1 hn1 hf1 hq1 => ?_)
  obtain ⟨l_Held, rfl⟩ := hq1
  simp (disch := omega) only [Ex_cond, go_sem, Nat.reduceEqDiff, Nat.reduceAdd, Nat.reduceLeDiff, reduceCtorEq, Int.reduceLT, Int.reduceLE, Int.reduceNeg, Int.reduceSub, Int.reduceAdd, Int.reduceToNat, ↓reduceIte, post_cell]
  refine toAskS_fresh x.Asks (by omega) _ _ (fun av2 hn2 hf2 hq2 => ?_)
  obtain ⟨l_Asks, rfl⟩ := hq2
  simp (disch := omega) only [Ex_cond, go_sem, Nat.reduceEqDiff, Nat.reduceAdd, Nat.reduceLeDiff, reduceCtorEq, Int.reduceLT, Int.reduceLE, Int.reduceNeg, Int.reduceSub, Int.reduceAdd, Int.reduceToNat, ↓reduceIte, post_cell]
  exact ⟨_, rfl, fresh_agg (FreshLB.cons ((hf1.b.keep fun l q1 q2 => pre3 (t := hn2) (by simp) q1 q2).widen (by first | omega | (simp; done) | (simp; omega)) (Nat.le_refl _)) (FreshLB.cons ((hf2.b.keep fun l q1 q2 => pre3 (t := []) (by simp) q1 q2).widen (by first | omega | (simp; done) | (simp; omega)) (Nat.le_refl _)) (FreshLB.nil _ _ _) ⟨(by first | omega | (simp; done) | (simp; omega)), (by first | omega | (simp; done) | (simp; omega))⟩) ⟨(by first | omega | (simp; done) | (simp; omega)), (by first | omega | (simp; done) | (simp; omega))⟩), l_Held, l_Asks, rfl⟩

theorem markLocks_mk : MarkA Tryz.prog 14 mtext [.list [.int, .int, .str, .list [.str]], .list [.int, .int, .str, .list [.str]]] := by
  intro m cs ds f H k K ho_0 nd hsh hk hb hK
  unfold shEl at hsh
  obtain ⟨_, d0, hd0, hc0, hsh⟩ := hsh
  unfold shCell at hc0
  obtain ⟨e0, rfl, hc0⟩ := hc0
  unfold shEl at hsh
  obtain ⟨_, d1, hd1, hc1, hsh⟩ := hsh
  unfold shCell at hc1
  obtain ⟨e1, rfl, hc1⟩ := hc1
  unfold shEl at hsh
  subst hsh
  subst hd1
  subst hd0
  simp only [cntTop, cntCell, Nat.add_zero, Nat.zero_add] at hb
  have hlt : ∀ x ∈ f, x < H.length := fun x hx => by
    obtain ⟨row, _, _, _, q, _⟩ := OwnL.inner (fun a r f ho => Own.inner ho) ho_0 x hx
    exact (List.getElem?_eq_some_iff.1 q).1
  obtain ⟨c0, q0, g0, w0, rfl, rfl, hw0, ho_1⟩ := ho_0.inv_cons
  obtain ⟨c1, q1, g1, w1, rfl, rfl, hw1, ho_2⟩ := ho_1.inv_cons
  obtain ⟨rfl, rfl⟩ := ho_2.inv_nil
  simp only [List.nodup_append, List.mem_append, List.append_nil, List.nil_append] at nd hlt
  have nd_0 : g0.Nodup := by first | exact nd | exact nd.1 | exact nd.2.1 | (simp_all; done)
  have hl_0 : ∀ x ∈ g0, x < H.length := fun x hx => hlt x (by simp [hx])
  have cc0 := hw0.cell_list
  simp only [AV.cell, Value.oneCell'] at cc0
  have nd_1 : g1.Nodup := by first | exact nd | exact nd.1 | exact nd.2.1 | (simp_all; done)
  have hl_1 : ∀ x ∈ g1, x < H.length := fun x hx => hlt x (by simp [hx])
  have cc1 := hw1.cell_list
  simp only [AV.cell, Value.oneCell'] at cc1
  refine call_of_fnWp mixed Tryz.func14 low_laws_markLocks (fnWp_of rfl ?_)
  simp (disch := omega) only [lf_laws_markLocks, c_laws_markLocks, cc0, cc1, go_sem, Nat.reduceEqDiff, Nat.reduceAdd, Nat.reduceLeDiff, reduceCtorEq, Int.reduceLT, Int.reduceLE, Int.reduceNeg, Int.reduceSub, Int.reduceAdd, Int.reduceToNat, ↓reduceIte]
  refine markLockS_mk _ c0 e0 g0 _ (k) _ (hw0.keep fun x hx => ?_) nd_0 hc0 (by omega) (by omega) (fun H1 m1 x1 y1 v1 => ?_)
  · exact List.getElem?_append_left (hl_0 x hx)
  have hq0 : (mapAcc (mkEl mtext [.int, .int, .str, .list [.str]]) e0 (k)).2 = k + (cntAcc (cntEl [.int, .int, .str, .list [.str]]) e0 : Nat) := mapAcc_cnt (fun x _ k => mkEl_cnt _ x k) _
  have p1 := (y1 H.length (fun hq => by have := hl_0 _ hq; omega)).trans (getA0 _ _)
  simp (disch := omega) only [p1, cc0, cc1, go_sem, Nat.reduceEqDiff, Nat.reduceAdd, Nat.reduceLeDiff, reduceCtorEq, Int.reduceLT, Int.reduceLE, Int.reduceNeg, Int.reduceSub, Int.reduceAdd, Int.reduceToNat, ↓reduceIte]
  refine markAskS_mk _ c1 e1 g1 _ ((mapAcc (mkEl mtext [.int, .int, .str, .list [.str]]) e0 (k)).2) _ (hw1.keep fun x hx => ?_) nd_1 hc1 (by omega) (by omega) (fun H2 m2 x2 y2 v2 => ?_)
  · rw [y1 x (by intro hq; first | (simp_all; done) | exact nd.2.2 _ hq _ hx rfl | exact nd.2.2 _ hx _ hq rfl | grind)]; exact List.getElem?_append_left (hl_1 x hx)
  have hq1 : (mapAcc (mkEl mtext [.int, .int, .str, .list [.str]]) e1 ((mapAcc (mkEl mtext [.int, .int, .str, .list [.str]]) e0 (k)).2)).2 = (mapAcc (mkEl mtext [.int, .int, .str, .list [.str]]) e0 (k)).2 + (cntAcc (cntEl [.int, .int, .str, .list [.str]]) e1 : Nat) := mapAcc_cnt (fun x _ k => mkEl_cnt _ x k) _
  have p2 := (y2 H.length (fun hq => by have := hl_1 _ hq; omega)).trans (by first | exact getA0 _ _ | exact p1)
  simp (disch := omega) only [p1, p2, cc0, cc1, go_sem, Nat.reduceEqDiff, Nat.reduceAdd, Nat.reduceLeDiff, reduceCtorEq, Int.reduceLT, Int.reduceLE, Int.reduceNeg, Int.reduceSub, Int.reduceAdd, Int.reduceToNat, ↓reduceIte]
  have hfr : ∀ x, x < H.length → x ∉ (g0 ++ g1) → H2[x]? = H[x]? := by
    intro x hx hxf
    try simp only [List.mem_append, not_or] at hxf
    rw [y2 x (by intro hq; first | (simp_all; done) | exact nd.2.2 _ hq _ hx rfl | exact nd.2.2 _ hx _ hq rfl | grind)]
    rw [y1 x (by intro hq; first | (simp_all; done) | exact nd.2.2 _ hq _ hx rfl | exact nd.2.2 _ hx _ hq rfl | grind)]
    exact List.getElem?_append_left hx
  have hfin := hK H2 (by simp only [x2, x1, List.length_append]; omega) (fun x hx hxf => hfr x hx (by simpa using hxf)) (by simp only [mkTop, mkCell]; exact ⟨_, (OwnL.mk_list (v1.keep fun x hx => by rw [y2 x (by intro hq; first | (simp_all; done) | exact nd.2.2 _ hq _ hx rfl | exact nd.2.2 _ hx _ hq rfl | grind)]) (OwnL.mk_list (v2.keep fun x hx => by rfl) (OwnL.mk_nil (Own _ (0 + 1)))))⟩)
  simp only [mkTop, mkCell] at hfin
  exact hfin

theorem shs_Int64S (xs : List Int) : ∀ e ∈ xs.map cInt, shEl [.int] e := by
  intro e he
  obtain ⟨x, _, q⟩ := List.mem_map.1 he; subst q
  simp only [shEl, shCell, cInt]
  exact ⟨_, _, rfl, ⟨_, rfl⟩, rfl⟩
theorem cntb_Int64S (xs : List Int) : cntAcc (cntEl [.int]) (xs.map cInt) ≤ 1 * (szList (fun _ => 0)) xs := by
  refine cnt_bound (fun x => ?_) xs
  simp only [cInt, cntEl, cntCell]
  omega
theorem cnt_Int64S (xs : List Int) (hb : (szList (fun _ => 0)) xs ≤ 1048576) : cntAcc (cntEl [.int]) (xs.map cInt) ≤ 1 * 1048576 := by
  have := cntb_Int64S xs
  omega

theorem markInt64S_mk : MarkC Tryz.prog 15 mtext [.int] := by
  refine MarkC.of ?_ ?_
  · intro H k K hK
    refine call_of_fnWp mixed Tryz.func15 low_laws_markInt64S (fnWp_of rfl ?_)
    simp (disch := omega) only [lf_laws_markInt64S, c_laws_markInt64S, go_sem, Nat.reduceEqDiff, Nat.reduceAdd, Nat.reduceLeDiff, reduceCtorEq, Int.reduceLT, Int.reduceLE, Int.reduceNeg, Int.reduceSub, Int.reduceAdd, Int.reduceToNat, ↓reduceIte]
    refine Ex_loop (fun n t h => t 0 = .val (.slice none 0 0) ∧ t 1 = .val (.int .i64 k) ∧ t 5 = .val (.int .i64 0) ∧ h = H) 0 ⟨rfl, rfl, rfl, rfl⟩ ?_
    rintro J hJ n t h ⟨t0, t1, t5, rfl⟩
    simp (disch := omega) only [t0, t1, t5, go_sem, Nat.reduceEqDiff, Nat.reduceAdd, Nat.reduceLeDiff, reduceCtorEq, Int.reduceLT, Int.reduceLE, Int.reduceNeg, Int.reduceSub, Int.reduceAdd, Int.reduceToNat, ↓reduceIte]
    exact hK
  · intro l cnt lo hi E rs0 f H0 k K hT hl nd hrl hlo hhi hsh hk hb hK
    refine call_of_fnWp mixed Tryz.func15 low_laws_markInt64S (fnWp_of rfl ?_)
    obtain ⟨seg, hseg⟩ : ∃ seg, seg = (rs0.take hi).drop lo := ⟨_, rfl⟩
    rw [← hseg] at hsh hb hK
    have hsl : hi - lo = seg.length := by rw [hseg, List.length_drop, List.length_take]; omega
    have hsn : seg.length ≤ cntAcc (cntEl [.int]) seg := cnt_len (c := cntEl [.int]) (fun e he => by have q := hsh e he; unfold shEl at q; obtain ⟨c, r, rfl, _, _⟩ := q; simp only [cntEl, cntCell]; omega)
    simp (disch := omega) only [lf_laws_markInt64S, c_laws_markInt64S, go_sem, Nat.reduceEqDiff, Nat.reduceAdd, Nat.reduceLeDiff, reduceCtorEq, Int.reduceLT, Int.reduceLE, Int.reduceNeg, Int.reduceSub, Int.reduceAdd, Int.reduceToNat, ↓reduceIte]
    refine Ex_loop (fun n t h => ∃ (i : Nat) (rs : List (List AV)), t 0 = .sub l cnt lo hi ∧ t 1 = .val (.int .i64 (mapAcc (mkEl mtext [.int]) (seg.take i) k).2) ∧ t 5 = .val (.int .i64 i) ∧ MT H0 l E 1 cnt f rs h ∧ n = seg.length - i ∧ i ≤ seg.length ∧ rs.length = cnt ∧ (rs.take hi).drop lo = (mapAcc (mkEl mtext [.int]) (seg.take i) k).1 ++ seg.drop i) seg.length ⟨0, rs0, rfl, rfl, rfl, hT, rfl, Nat.zero_le _, hrl, hseg.symm⟩ ?_
    rintro J hJ n t h ⟨i, rs, t0, t1, t5, hM, rfl, hi1, hrl1, hS⟩
    by_cases hlt : i < seg.length
    · have hA : (mapAcc (mkEl mtext [.int]) (seg.take i) k).1.length = i := by rw [mapAcc_len, List.length_take]; omega
      have hst := acc_step (g := (mkEl mtext [.int])) (k := k) hlt
      have hcn := cnt_take (c := cntEl [.int]) hlt
      have hzz : (mapAcc (mkEl mtext [.int]) (seg.take i) k).2 = k + cntAcc (cntEl [.int]) (seg.take i) := mapAcc_cnt (fun x _ k => mkEl_cnt [.int] x k) k
      have hj4 : (lo : Int) + (i : Int) < (hi : Int) := by omega
      have hj2 := (seg_at hS hA hlt).2.1
      have hsd := hsh _ (List.getElem_mem hlt)
      have hss : ∀ d, ((rs.set (lo + i) d).take hi).drop lo = ((mapAcc (mkEl mtext [.int]) (seg.take i) k).1 ++ [d]) ++ seg.drop (i + 1) := fun d => seg_step hS hA hlt
      clear hS hA
      generalize seg[i] = d at hst hcn hj2 hsd
      obtain ⟨z, hz⟩ : ∃ z, z = (mapAcc (mkEl mtext [.int]) (seg.take i) k).2 := ⟨_, rfl⟩
      rw [← hz] at hst hzz t1
      have hz0 : 0 ≤ z := by omega
      unfold shEl at hsd
      obtain ⟨_, d0, hd0, hc0, hsd⟩ := hsd
      unfold shCell at hc0
      obtain ⟨n0, rfl⟩ := hc0
      unfold shEl at hsd
      subst hsd
      subst hd0
      simp only [cntEl, cntCell, Nat.add_zero] at hcn
      obtain ⟨m, es, e, f2, r1, r2, r3, ho_0, nd2, hl2, hfin⟩ := hM.elem hl nd hj2
      obtain ⟨q0, rfl, ho_1⟩ := ho_0.inv_val
      obtain ⟨rfl, rfl⟩ := ho_1.inv_nil
      have u1 : ∀ r, (h.set l r)[l]? = some r := fun r => List.getElem?_set_self (List.getElem?_eq_some_iff.1 r1).1
      have u2 : ∀ x, (es.set (lo + i) x)[lo + i]? = some x := fun x => List.getElem?_set_self (List.getElem?_eq_some_iff.1 r3).1
      simp (disch := omega) only [t0, t1, t5, hlt, hsl, hj4, hlo, r1, r2, r3, u1, u2, List.length_set, List.set_set, go_sem, Nat.reduceEqDiff, Nat.reduceAdd, Nat.reduceLeDiff, reduceCtorEq, Int.reduceLT, Int.reduceLE, Int.reduceNeg, Int.reduceSub, Int.reduceAdd, Int.reduceToNat, ↓reduceIte]
      refine ⟨seg.length - (i + 1), by omega, hJ _ _ _ ⟨i + 1, rs.set (lo + i) _, by simp [upd, t0], by rw [hst]; simp [upd, mkEl, mkCell], by simp [upd], hfin _ _ _ ?_ (by first | exact u1 _ | exact u1 _) ?_ ?_, rfl, by omega, by simpa using hrl1, by rw [hst]; exact hss _⟩⟩
      · simp only [List.length_set]
      · intro x hx
        simp only [List.mem_cons, List.mem_append, not_or, List.append_nil, List.nil_append] at hx
        try rw [List.getElem?_set_ne (Ne.symm hx.1)]
      · simp only [mkEl, mkCell]
        exact ⟨_, (OwnL.mk_val _ (OwnL.mk_nil (Own _ (0 + 1))))⟩
    · obtain ⟨m, es, r1, r2, _⟩ := hM.out
      have e1 : seg.take i = seg := List.take_of_length_le (by omega)
      have e2 : seg.drop i = [] := List.drop_eq_nil_of_le (by omega)
      rw [e1] at t1 hS
      rw [e2, List.append_nil] at hS
      simp (disch := omega) only [t0, t1, t5, hlt, hsl, hlo, r1, r2, go_sem, Nat.reduceEqDiff, Nat.reduceAdd, Nat.reduceLeDiff, reduceCtorEq, Int.reduceLT, Int.reduceLE, Int.reduceNeg, Int.reduceSub, Int.reduceAdd, Int.reduceToNat, ↓reduceIte]
      exact hK _ rs hM hS

theorem heldInt64S_hd (es : List (List AV)) (k : Int) (hsh : ∀ e ∈ es, shEl [.int] e) (hk : 0 ≤ k) (hb : k + cntAcc (cntEl [.int]) es ≤ 4611686018427387904) (h : List Row) : PureCall Tryz.prog 16 [.list 0 1 es, .val (.int .i64 k)] h (.val (.int .i64 (hdAcc (hdEl mtext [.int]) es k))) := by
  refine pure_fn mixed Tryz.func16 low_laws_heldInt64S rfl rfl ?_ h
  have hsn : es.length ≤ cntAcc (cntEl [.int]) es := cnt_len (c := cntEl [.int]) (fun e he => by have q := hsh e he; unfold shEl at q; obtain ⟨c, r, rfl, _, _⟩ := q; simp only [cntEl, cntCell]; omega)
  simp (disch := omega) only [lf_laws_heldInt64S, c_laws_heldInt64S, go_sem, Nat.reduceEqDiff, Nat.reduceAdd, Nat.reduceLeDiff, reduceCtorEq, Int.reduceLT, Int.reduceLE, Int.reduceNeg, Int.reduceSub, Int.reduceAdd, Int.reduceToNat, ↓reduceIte]
  refine Ex_loop (fun n t h => ∃ (i : Nat) (z : Int), t 0 = .list 0 1 es ∧ t 1 = .val (.int .i64 z) ∧ t 5 = .val (.int .i64 i) ∧ n = es.length - i ∧ i ≤ es.length ∧ 0 ≤ z ∧ z + cntAcc (cntEl [.int]) (es.drop i) ≤ 4611686018427387904 ∧ hdAcc (hdEl mtext [.int]) es k = hdAcc (hdEl mtext [.int]) (es.drop i) z) es.length ⟨0, k, rfl, rfl, rfl, rfl, Nat.zero_le _, hk, hb, rfl⟩ ?_
  rintro J hJ n t h ⟨i, z, t0, t1, t5, rfl, hi, hz0, hzb, hS⟩
  by_cases hlt : i < es.length
  · rw [hdAcc_at hlt] at hS
    rw [cnt_at hlt] at hzb
    have hsd := hsh _ (List.getElem_mem hlt)
    obtain ⟨d, hd⟩ : ∃ d, es[i] = d := ⟨_, rfl⟩
    rw [hd] at hS hzb hsd
    have hg : es[i]? = some d := by rw [List.getElem?_eq_getElem hlt, hd]
    unfold shEl at hsd
    obtain ⟨_, d0, hd0, hc0, hsd⟩ := hsd
    unfold shCell at hc0
    obtain ⟨n0, rfl⟩ := hc0
    unfold shEl at hsd
    subst hsd
    subst hd0
    simp only [cntEl, cntCell, Nat.add_zero] at hzb
    simp (disch := omega) only [t0, t1, t5, hlt, hg, hd, go_sem, Nat.reduceEqDiff, Nat.reduceAdd, Nat.reduceLeDiff, reduceCtorEq, Int.reduceLT, Int.reduceLE, Int.reduceNeg, Int.reduceSub, Int.reduceAdd, Int.reduceToNat, ↓reduceIte]
    by_cases q0 : n0 = z
    case neg =>
      simp (disch := omega) only [t0, t1, t5, hlt, hg, hd, q0, go_sem, Nat.reduceEqDiff, Nat.reduceAdd, Nat.reduceLeDiff, reduceCtorEq, Int.reduceLT, Int.reduceLE, Int.reduceNeg, Int.reduceSub, Int.reduceAdd, Int.reduceToNat, ↓reduceIte]
      exact resolve_int (by rw [hS]; exact (hdAcc_neg (by simp (disch := first | assumption | omega) only [hdEl_int, hdEl_int', hdEl_str, hdEl_str', hdEl_bool, hdEl_bool', hdEl_list, hdEl_list', hdEl_nil])).symm)
    simp (disch := omega) only [t0, t1, t5, hlt, hg, hd, q0, go_sem, Nat.reduceEqDiff, Nat.reduceAdd, Nat.reduceLeDiff, reduceCtorEq, Int.reduceLT, Int.reduceLE, Int.reduceNeg, Int.reduceSub, Int.reduceAdd, Int.reduceToNat, ↓reduceIte]
    exact ⟨es.length - (i + 1), by omega, hJ _ _ _ ⟨i + 1, z + 1, by simp [upd, t0], by simp [upd], by simp [upd], rfl, by omega, by omega, by omega, by rw [hS]; exact hdAcc_pos (by simp (disch := first | assumption | omega) only [hdEl_int, hdEl_int', hdEl_str, hdEl_str', hdEl_bool, hdEl_bool', hdEl_list, hdEl_list', hdEl_nil]) (by omega)⟩⟩
  · simp (disch := omega) only [t0, t1, t5, hlt, go_sem, Nat.reduceEqDiff, Nat.reduceAdd, Nat.reduceLeDiff, reduceCtorEq, Int.reduceLT, Int.reduceLE, Int.reduceNeg, Int.reduceSub, Int.reduceAdd, Int.reduceToNat, ↓reduceIte]
    exact resolve_int (by rw [hS, List.drop_eq_nil_of_le (by omega)]; rfl)

end Go.Proofs.YtodgohgdnmifaaaGreatDoor
