/-
  Contracts of functions of this program, over abstract values. Conditions: as each theorem says.
-/
import Derived.Test.YtclhpcfpchpbnaaGreatDoorFnKF
namespace Go.Proofs.YtclhpcfpchpbnaaGreatDoor
open Go.AW
set_option linter.unusedVariables false
set_option linter.unusedSimpArgs false
set_option maxRecDepth 4000

theorem esc_at (l : List UInt8) (i : Nat) (h : i < l.length) : esc (l.drop i) = if l[i] = 0 then 0 :: 255 :: esc (l.drop (i + 1)) else l[i] :: esc (l.drop (i + 1)) := by
  rw [List.drop_eq_getElem_cons h, esc]
theorem byte7 (n k : Nat) (h : k < 8) : IntKind.u8.wrap ((n : Int).fdiv (2 ^ min (8 * (7 - (k : Int))).toNat 64)) = ((byteAt n (7 - k)).toNat : Int) := by
  have e : (8 * (7 - (k : Int))).toNat = (8 * ((7 - k : Nat) : Int)).toNat := by omega
  rw [e, shr_byte _ _ (by omega), wrapB_byte]
theorem byteCells_snoc (l : List UInt8) (b : UInt8) : byteCells l ++ [[AV.val (.int .u8 b.toNat)]] = byteCells (l ++ [b]) := by simp [byteCells]
def c_spec_l02Key : LC :=
 .seq (.ops [⟨some 2, none, .mov (.const (.string ⟨#[]⟩))⟩]) (.seq (.ops [⟨some 7, none, .buildSlice 5 1 (.int .u8 0) 0 []⟩, ⟨some 3, none, .mov (.tmp 7)⟩]) (.seq (.seq (.ops [⟨some 8, none, .mov (.tmp 0)⟩, ⟨some 9, none,
 .call 231 [.tmp 8]⟩]) (.cond (.tmp 9) (.seq (.ops [⟨some 10, none, .mov (.tmp 0)⟩, ⟨some 11, none, .call 232 [.tmp 10]⟩, ⟨some 12, none, .bin .add false (.tmp 11) (.const (.int .i64 1000000000000000000))⟩, ⟨some 4, none,
 .mov (.tmp 12)⟩]) (.seq (.ops [⟨some 13, none, .mov (.tmp 3)⟩, ⟨some 14, none, .buildSlice 5 1 (.int .u8 0) 1 [(0, .const (.int .u8 1))]⟩, ⟨some 15, none, .append 5 1 1 (.tmp 13) (.tmp 14)⟩, ⟨some 3, none, .mov (.tmp
 15)⟩]) (.seq (.seq (.ops [⟨some 5, none, .mov (.const (.int .i64 7))⟩]) (.block 0 (.loop (.seq (.seq (.ops [⟨some 16, none, .mov (.tmp 5)⟩, ⟨some 17, none, .bin .geq false (.tmp 16) (.const (.int .i64 0))⟩]) (.cond (.tmp
 17) (.skip) (.exit 0))) (.seq (.block 1 (.ops [⟨some 20, none, .mov (.tmp 3)⟩, ⟨some 21, none, .mov (.tmp 4)⟩, ⟨some 22, none, .mov (.tmp 5)⟩, ⟨some 23, none, .bin .mul false (.const (.int .i64 8)) (.tmp 22)⟩, ⟨some 24,
 none, .bin .shr false (.tmp 21) (.tmp 23)⟩, ⟨some 25, none, .convInt .u8 (.tmp 24)⟩, ⟨some 26, none, .buildSlice 5 1 (.int .u8 0) 1 [(0, .tmp 25)]⟩, ⟨some 27, none, .append 5 1 1 (.tmp 20) (.tmp 26)⟩, ⟨some 3, none, .mov
 (.tmp 27)⟩])) (.ops [⟨some 18, none, .mov (.tmp 5)⟩, ⟨some 19, none, .bin .sub false (.tmp 18) (.const (.int .i64 1))⟩, ⟨some 5, none, .mov (.tmp 19)⟩])))))) (.seq (.ops [⟨some 28, none, .mov (.tmp 3)⟩, ⟨some 29, none,
 .toStr (.tmp 28)⟩, ⟨some 2, none, .mov (.tmp 29)⟩]) (.ret))))) (.skip))) (.seq (.ops [⟨some 30, none, .mov (.tmp 3)⟩, ⟨some 31, none, .buildSlice 5 1 (.int .u8 0) 1 [(0, .const (.int .u8 2))]⟩, ⟨some 32, none, .append 5 1
 1 (.tmp 30) (.tmp 31)⟩, ⟨some 3, none, .mov (.tmp 32)⟩]) (.seq (.seq (.ops [⟨some 6, none, .mov (.const (.int .i64 0))⟩]) (.block 2 (.loop (.seq (.seq (.ops [⟨some 33, none, .mov (.tmp 6)⟩, ⟨some 34, none, .mov (.tmp 0)⟩,
 ⟨some 35, none, .lenStr (.tmp 34)⟩, ⟨some 36, none, .bin .lss false (.tmp 33) (.tmp 35)⟩]) (.cond (.tmp 36) (.skip) (.exit 2))) (.seq (.block 3 (.seq (.ops [⟨some 39, none, .mov (.tmp 3)⟩, ⟨some 40, none, .mov (.tmp 0)⟩,
 ⟨some 41, none, .mov (.tmp 6)⟩, ⟨some 42, none, .indexStr (.tmp 40) (.tmp 41)⟩, ⟨some 43, none, .buildSlice 5 1 (.int .u8 0) 1 [(0, .tmp 42)]⟩, ⟨some 44, none, .append 5 1 1 (.tmp 39) (.tmp 43)⟩, ⟨some 3, none, .mov (.tmp
 44)⟩]) (.seq (.ops [⟨some 45, none, .mov (.tmp 0)⟩, ⟨some 46, none, .mov (.tmp 6)⟩, ⟨some 47, none, .indexStr (.tmp 45) (.tmp 46)⟩, ⟨some 48, none, .bin .eql false (.tmp 47) (.const (.int .u8 0))⟩]) (.cond (.tmp 48) (.ops
 [⟨some 49, none, .mov (.tmp 3)⟩, ⟨some 50, none, .buildSlice 5 1 (.int .u8 0) 1 [(0, .const (.int .u8 255))]⟩, ⟨some 51, none, .append 5 1 1 (.tmp 49) (.tmp 50)⟩, ⟨some 3, none, .mov (.tmp 51)⟩]) (.skip))))) (.ops [⟨some
 37, none, .mov (.tmp 6)⟩, ⟨some 38, none, .bin .add false (.tmp 37) (.const (.int .i64 1))⟩, ⟨some 6, none, .mov (.tmp 38)⟩])))))) (.seq (.ops [⟨some 52, none, .mov (.tmp 3)⟩, ⟨some 53, none, .buildSlice 5 1 (.int .u8 0)
 2 [(0, .const (.int .u8 0)), (1, .const (.int .u8 0))]⟩, ⟨some 54, none, .append 5 1 1 (.tmp 52) (.tmp 53)⟩, ⟨some 55, none, .toStr (.tmp 54)⟩, ⟨some 2, none, .mov (.tmp 55)⟩]) (.ret))))))
def lf_spec_l02Key : LF := { np := 1, N := 56, body := c_spec_l02Key, res := [.tmp 2] }
theorem low_spec_l02Key : LowF Tryz.prog Tryz.f215 lf_spec_l02Key := LowF.mk' (by kernel_rfl) (by kernel_rfl) (by kernel_rfl) (by decide)

theorem spec_l02Key_ok (l : List UInt8) (hl : l.length ≤ 1048576) (h : List Row) : PureCall Tryz.prog 215 [.val (.string (txt l))] h (.val (.string (txt (subKey l)))) := by
  refine pure_fn mixed Tryz.func215 low_spec_l02Key rfl rfl ?_ h
  simp (disch := omega) only [lf_spec_l02Key, c_spec_l02Key, go_sem, reduceCtorEq, ↓reduceIte]
  refine PureCall.call (spec_l01Canon_ok l (by omega) _) ?_
  by_cases q : canon l = true
  · simp (disch := omega) only [q, go_sem, reduceCtorEq, ↓reduceIte]
    refine PureCall.call (spec_l01Of_ok l (by omega) _) ?_
    have hn := numOf_le l
    have hq := keyNum_eq l
    have hq2 := keyNum_le l
    have hkey : subKey l = 1 :: be8 (keyNum l) := by unfold subKey; rw [if_pos q]
    simp (disch := omega) only [wrap_in, ← hq, go_sem, Nat.reduceEqDiff, Nat.reduceLeDiff, ↓reduceIte]
    refine ⟨by omega, ?_⟩
    try simp (disch := omega) only [wrap_in, ← hq, go_sem, Nat.reduceEqDiff, Nat.reduceAdd, Nat.reduceLeDiff, reduceCtorEq, Int.reduceLT, Int.reduceLE, Int.reduceNeg, Int.reduceSub, Int.reduceAdd, Int.reduceToNat, ↓reduceIte]
    refine Ex_loop (fun n t h => ∃ (k : Nat) (rest : List Row), t 3 = .own 0 (1 + k) ∧ t 4 = .val (.int .i64 (keyNum l)) ∧ t 5 = .val (.int .i64 (7 - k)) ∧ h = ⟨5, 1, byteCells (1 :: (be8 (keyNum l)).take k)⟩ :: rest ∧ n = 8 - k ∧ k ≤ 8) 8 ?_ ?_
    · exact ⟨0, _, rfl, rfl, rfl, rfl, rfl, by omega⟩
    rintro J hJ n t h ⟨k, rest, t3, t4, t5, rfl, rfl, hk⟩
    have fl : (byteCells (1 :: (be8 (keyNum l)).take k)).length = 1 + k := by
      rw [byteCells_len, List.length_cons, List.length_take, be8_length]; omega
    by_cases hlt : k < 8
    · have hg : (0 : Int) ≤ 7 - k := by omega
      simp (disch := omega) only [t3, t4, t5, hg, fl, bin_mul, bin_shr, wrap_in, byte7, go_sem, Nat.reduceEqDiff, Nat.reduceLeDiff, ↓reduceIte]
      refine ⟨by omega, by omega, ?_⟩
      try simp (disch := omega) only [t3, t4, t5, hg, fl, bin_mul, bin_shr, wrap_in, byte7, go_sem, Nat.reduceEqDiff, Nat.reduceAdd, Nat.reduceLeDiff, reduceCtorEq, Int.reduceLT, Int.reduceLE, Int.reduceNeg, Int.reduceSub, Int.reduceAdd, Int.reduceToNat, ↓reduceIte]
      refine ⟨8 - (k + 1), by omega, hJ _ _ _ ⟨k + 1, rest ++ [⟨5, 1, byteCells [byteAt (keyNum l) (7 - k)]⟩], by simp [upd]; try omega, by simp [upd, t4], by simp [upd]; try omega, ?_, rfl, by omega⟩⟩
      rw [byteCells_snoc, List.cons_append, ← be8_next _ _ hlt]
      rfl
    · have hg : ¬ (0 : Int) ≤ 7 - k := by omega
      simp (disch := omega) only [t3, t5, hg, fl, mapM_bytes, Option.map_some, go_sem, Nat.reduceEqDiff, ↓reduceIte]
      rw [be8_all _ _ (by omega), ← hkey]
      exact ⟨1, rfl⟩
  · have q' : canon l = false := by simpa using q
    have hkey : subKey l = 2 :: (esc l ++ [0, 0]) := by unfold subKey; rw [if_neg q]
    simp (disch := omega) only [q', go_sem, Nat.reduceEqDiff, Nat.reduceLeDiff, ↓reduceIte]
    refine ⟨by omega, ?_⟩
    try simp (disch := omega) only [go_sem, Nat.reduceEqDiff, Nat.reduceAdd, Nat.reduceLeDiff, reduceCtorEq, Int.reduceLT, Int.reduceLE, Int.reduceNeg, Int.reduceSub, Int.reduceAdd, Int.reduceToNat, ↓reduceIte]
    refine Ex_loop (fun n t h => ∃ (i : Nat) (out : List UInt8) (rest : List Row), t 0 = .val (.string (txt l)) ∧ t 3 = .own 0 out.length ∧ t 6 = .val (.int .i64 i) ∧ h = ⟨5, 1, byteCells out⟩ :: rest ∧ n = l.length - i ∧ i ≤ l.length ∧ out.length ≤ 1 + 2 * i ∧ 2 :: esc l = out ++ esc (l.drop i)) l.length ?_ ?_
    · exact ⟨0, [2], _, rfl, rfl, rfl, rfl, rfl, by omega, by simp, rfl⟩
    rintro J hJ n t h ⟨i, out, rest, t0, t3, t6, rfl, rfl, hi, hol, hS⟩
    have fl := byteCells_len out
    by_cases hlt : i < l.length
    · have hltI : (i : Int) < l.length := by omega
      rw [esc_at l i hlt] at hS
      by_cases r0 : l[i] = 0
      · rw [if_pos r0] at hS
        have r0' : ((l[i].toNat : Int) = 0) = True := by simp [r0]
        simp (disch := omega) only [t0, t3, t6, hltI, r0', fl, wrap_in, go_sem, Nat.reduceEqDiff, Nat.reduceLeDiff, reduceCtorEq, ↓reduceIte]
        refine ⟨by omega, by omega, ?_⟩
        refine ⟨by omega, by omega, ?_⟩
        refine ⟨l.length - (i + 1), by omega, hJ _ _ _ ⟨i + 1, out ++ [0, 255], rest ++ [⟨5, 1, byteCells [l[i]]⟩, ⟨5, 1, byteCells [255]⟩], by simp [upd, t0], by simp [upd], by simp [upd]; try omega, by simp [byteCells, r0], rfl, by omega, by simp; omega, by rw [hS]; simp⟩⟩
      · rw [if_neg r0] at hS
        have r0' : ((l[i].toNat : Int) = 0) = False := by rw [eq_iff_iff, iff_false]; intro e; exact r0 (UInt8.toNat_inj.1 (by have h2 : (0 : UInt8).toNat = 0 := rfl; omega))
        simp (disch := omega) only [t0, t3, t6, hltI, r0', fl, wrap_in, go_sem, Nat.reduceEqDiff, Nat.reduceLeDiff, reduceCtorEq, ↓reduceIte]
        refine ⟨by omega, by omega, ?_⟩
        try simp (disch := omega) only [t0, t3, t6, hltI, hlt, r0', fl, wrap_in, go_sem, Nat.reduceEqDiff, Nat.reduceAdd, Nat.reduceLeDiff, reduceCtorEq, Int.reduceLT, Int.reduceLE, Int.reduceNeg, Int.reduceSub, Int.reduceAdd, Int.reduceToNat, ↓reduceIte]
        exact ⟨l.length - (i + 1), by omega, hJ _ _ _ ⟨i + 1, out ++ [l[i]], rest ++ [⟨5, 1, byteCells [l[i]]⟩], by simp [upd, t0], by simp [upd], by simp [upd]; try omega, by simp [byteCells], rfl, by omega, by simp; omega, by rw [hS]; simp⟩⟩
    · have hltI : ¬ (i : Int) < l.length := by omega
      rw [List.drop_eq_nil_of_le (by omega), esc, List.append_nil] at hS
      simp (disch := omega) only [t0, t3, t6, hltI, fl, go_sem, Nat.reduceEqDiff, Nat.reduceAdd, Nat.reduceLeDiff, reduceCtorEq, ↓reduceIte]
      refine ⟨by omega, by omega, ?_⟩
      have e2 : byteCells out ++ [[AV.val (.int .u8 0)], [AV.val (.int .u8 0)]] = byteCells (out ++ [0, 0]) := by simp [byteCells]
      simp (disch := omega) only [e2, mapM_bytes, Option.map_some, go_sem]
      rw [hkey, ← hS]
      exact ⟨1, rfl⟩
def c_spec_l02Put : LC :=
 .seq (.ops [⟨some 2, none, .mov (.const (.string ⟨#[]⟩))⟩]) (.seq (.ops [⟨some 3, none, .mov (.const (.string ⟨#[]⟩))⟩]) (.seq (.seq (.ops [⟨some 4, none, .mov (.const (.int .i64 0))⟩]) (.block 0 (.loop (.seq (.seq (.ops
 [⟨some 5, none, .mov (.tmp 4)⟩, ⟨some 6, none, .mov (.tmp 0)⟩, ⟨some 7, none, .lenSl (.tmp 6)⟩, ⟨some 8, none, .bin .lss false (.tmp 5) (.tmp 7)⟩]) (.cond (.tmp 8) (.skip) (.exit 0))) (.seq (.block 1 (.ops [⟨some 11,
 none, .mov (.tmp 3)⟩, ⟨some 12, none, .mov (.tmp 0)⟩, ⟨some 13, none, .mov (.tmp 4)⟩, ⟨some 14, none, .indexAddr 1 (.tmp 12) (.tmp 13)⟩, ⟨some 15, none, .load none (.tmp 14)⟩, ⟨some 16, none, .call 215 [.tmp 15]⟩, ⟨some
 17, none, .bin .add false (.tmp 11) (.tmp 16)⟩, ⟨some 3, none, .mov (.tmp 17)⟩])) (.ops [⟨some 9, none, .mov (.tmp 4)⟩, ⟨some 10, none, .bin .add false (.tmp 9) (.const (.int .i64 1))⟩, ⟨some 4, none, .mov (.tmp
 10)⟩])))))) (.seq (.ops [⟨some 18, none, .mov (.tmp 3)⟩, ⟨some 2, none, .mov (.tmp 18)⟩]) (.ret))))
def lf_spec_l02Put : LF := { np := 1, N := 19, body := c_spec_l02Put, res := [.tmp 2] }
theorem low_spec_l02Put : LowF Tryz.prog Tryz.f185 lf_spec_l02Put := LowF.mk' (by kernel_rfl) (by kernel_rfl) (by kernel_rfl) (by decide)

theorem spec_l02Put_ok (xs : List ByteArray) (hx : subsOk xs = true) (h : List Row) : PureCall Tryz.prog 185 [.list 0 1 (xs.map cStr)] h (.val (.string (txt (putL (bss xs))))) := by
  refine pure_fn mixed Tryz.func185 low_spec_l02Put rfl rfl ?_ h
  obtain ⟨h4, hm⟩ := subsOk_mem hx
  simp (disch := omega) only [lf_spec_l02Put, c_spec_l02Put, go_sem]
  refine Ex_loop (fun n t h => ∃ k : Nat, t 0 = .list 0 1 (xs.map cStr) ∧ t 3 = .val (.string (txt (putL (bss (xs.take k))))) ∧ t 4 = .val (.int .i64 k) ∧ h = [] ∧ n = xs.length - k ∧ k ≤ xs.length) xs.length ⟨0, rfl, rfl, rfl, rfl, rfl, Nat.zero_le _⟩ ?_
  rintro J hJ n t h ⟨k, t0, t3, t4, rfl, rfl, hk⟩
  by_cases hlt : k < xs.length
  · have hltI : (k : Int) < xs.length := by omega
    have hl1 := putL_len (xs.take k) (fun x hx' => (hm x (List.mem_of_mem_take hx')).2)
    have hl2 : (xs.take k).length ≤ 4 := by rw [List.length_take]; omega
    have hl3 := subKey_length (bs xs[k])
    have hl4 := hm _ (List.getElem_mem hlt)
    have hl5 : (bs xs[k]).length = xs[k].size := bs_len _
    have hc := fun h => spec_l02Key_ok (bs xs[k]) (by omega) h
    rw [txt_bs] at hc
    have hadd : (putL (bss (xs.take k))).length + (subKey (bs xs[k])).length ≤ 9223372036854775807 := by omega
    simp (disch := omega) only [t0, t3, t4, hltI, go_sem, Nat.reduceEqDiff, reduceCtorEq, ↓reduceIte]
    refine PureCall.call (hc _) ?_
    simp (disch := omega) only [t4, bin_sadd _ _ _ hadd, wrap_in, go_sem, Nat.reduceEqDiff, ↓reduceIte]
    refine ⟨xs.length - (k + 1), by omega, hJ _ _ _ ⟨k + 1, by simp [upd, t0], ?_, by simp [upd], rfl, rfl, by omega⟩⟩
    rw [List.take_succ_eq_append_getElem hlt, bss, bss, List.map_append, putL_app]
    simp [upd, putL]
  · have hltI : ¬ (k : Int) < xs.length := by omega
    simp (disch := omega) only [t0, t3, t4, hltI, go_sem, Nat.reduceEqDiff, reduceCtorEq, ↓reduceIte]
    rw [List.take_of_length_le (by omega)]
    exact ⟨1, rfl⟩
end Go.Proofs.YtclhpcfpchpbnaaGreatDoor
