/-
  Contracts of functions of this program, over abstract values. Conditions: as each theorem says.
-/
import Derived.Test.YtclhpcfpchpbnaaGreatDoorFnKE
namespace Go.Proofs.YtclhpcfpchpbnaaGreatDoor
open Go.AW
set_option linter.unusedVariables false
set_option linter.unusedSimpArgs false
set_option maxRecDepth 4000

theorem shl8I (q : Bool) (a : Int) : binEval .shl q (.val (.int .i64 a)) (.val (.int .u64 8)) = some (.val (.int .i64 (IntKind.i64.wrap (a * 256)))) := by
  rw [bin_shl _ _ _ _ _ (by decide)]; rfl
theorem or8 (q : Bool) (x b : Nat) (h : b < 256) (hx : x < 72057594037927936) : binEval .or q (.val (.int .i64 (IntKind.i64.wrap ((IntKind.i64.wrap (x : Int)) * 256)))) (.val (.int .i64 (b : Int))) = some (.val (.int .i64 (IntKind.i64.wrap ((x * 256 + b : Nat) : Int)))) := by
  have h8 : (2 : Int) ^ (min (8 : Int).toNat 64) = 256 := by decide
  have := or_byte x b h (by omega)
  rw [h8] at this
  rw [bin_orI, this, Nat.mod_eq_of_lt (by omega)]
theorem or8' (q : Bool) (x b : Nat) (h : b < 256) (hx : x < 72057594037927936) : binEval .or q (.val (.int .i64 (IntKind.i64.wrap ((x : Int) * 256)))) (.val (.int .i64 (b : Int))) = some (.val (.int .i64 (IntKind.i64.wrap ((x * 256 + b : Nat) : Int)))) := by
  have := or8 q x b h hx
  rwa [wrap_in (n := (x : Int)) (by omega) (by omega)] at this
def c_spec_l02Num : LC :=
 .seq (.ops [⟨some 2, none, .mov (.const (.int .i64 0))⟩]) (.seq (.ops [⟨some 3, none, .mov (.const (.int .i64 0))⟩]) (.seq (.seq (.ops [⟨some 4, none, .mov (.const (.int .i64 0))⟩]) (.block 0 (.loop (.seq (.seq (.ops
 [⟨some 5, none, .mov (.tmp 4)⟩, ⟨some 6, none, .bin .lss false (.tmp 5) (.const (.int .i64 8))⟩]) (.cond (.tmp 6) (.skip) (.exit 0))) (.seq (.block 1 (.ops [⟨some 9, none, .mov (.tmp 3)⟩, ⟨some 10, none, .bin .shl false
 (.tmp 9) (.const (.int .u64 8))⟩, ⟨some 11, none, .mov (.tmp 0)⟩, ⟨some 12, none, .mov (.tmp 4)⟩, ⟨some 13, none, .indexStr (.tmp 11) (.tmp 12)⟩, ⟨some 14, none, .convInt .i64 (.tmp 13)⟩, ⟨some 15, none, .bin .or false
 (.tmp 10) (.tmp 14)⟩, ⟨some 3, none, .mov (.tmp 15)⟩])) (.ops [⟨some 7, none, .mov (.tmp 4)⟩, ⟨some 8, none, .bin .add false (.tmp 7) (.const (.int .i64 1))⟩, ⟨some 4, none, .mov (.tmp 8)⟩])))))) (.seq (.ops [⟨some 16,
 none, .mov (.tmp 3)⟩, ⟨some 2, none, .mov (.tmp 16)⟩]) (.ret))))
def lf_spec_l02Num : LF := { np := 1, N := 17, body := c_spec_l02Num, res := [.tmp 2] }
theorem low_spec_l02Num : LowF Tryz.prog Tryz.f213 lf_spec_l02Num := LowF.mk' (by kernel_rfl) (by kernel_rfl) (by kernel_rfl) (by decide)

theorem spec_l02Num_ok (l : List UInt8) (hl : l.length = 8) (h : List Row) : PureCall Tryz.prog 213 [.val (.string (txt l))] h (.val (.int .i64 (IntKind.i64.wrap (ofBe 0 l)))) := by
  refine pure_fn mixed Tryz.func213 low_spec_l02Num rfl rfl ?_ h
  simp (disch := omega) only [lf_spec_l02Num, c_spec_l02Num, go_sem]
  refine Ex_loop (fun n t h => ∃ k : Nat, t 0 = .val (.string (txt l)) ∧ t 3 = .val (.int .i64 (IntKind.i64.wrap (ofBe 0 (l.take k)))) ∧ t 4 = .val (.int .i64 k) ∧ h = [] ∧ n = 8 - k ∧ k ≤ 8) 8 ?_ ?_
  · exact ⟨0, rfl, by rw [List.take_zero, ofBe_nil]; rfl, rfl, rfl, rfl, by omega⟩
  rintro J hJ n t h ⟨k, t0, t3, t4, rfl, rfl, hk⟩
  by_cases hlt : k < 8
  · have hkl : k < l.length := by omega
    have hkI : (k : Int) < 8 := by omega
    have hb := ofBe_take_lt l k (by omega)
    have hu := u8_lt l[k]
    simp (disch := omega) only [t0, t3, t4, hkI, shl8I, or8', wrap_in, go_sem, Nat.reduceEqDiff, reduceCtorEq, ↓reduceIte]
    exact ⟨8 - (k + 1), by omega, hJ _ _ _ ⟨k + 1, by simp [upd, t0], by rw [ofBe_take l k hkl]; simp [upd], by simp [upd], rfl, rfl, by omega⟩⟩
  · have hkI : ¬ (k : Int) < 8 := by omega
    simp (disch := omega) only [t3, t4, hkI, go_sem, Nat.reduceEqDiff, ↓reduceIte]
    rw [List.take_of_length_le (by omega)]
    exact ⟨1, rfl⟩
theorem takeS_at (l : List UInt8) (h : 0 < l.length) : takeS l = if l[0] = 1 ∧ 9 ≤ l.length then (if 1 ≤ ofBe 0 ((l.drop 1).take 8) ∧ ofBe 0 ((l.drop 1).take 8) ≤ 1999999999999999999 then some (numText ((ofBe 0 ((l.drop 1).take 8) : Int) - 1000000000000000000), (l.drop 1).drop 8) else none) else if l[0] = 2 then unesc (l.drop 1) [] else none := by
  cases l with
  | nil => simp at h
  | cons b l =>
    have e : (9 ≤ (b :: l).length) = (8 ≤ l.length) := by simp
    rw [takeS]
    simp only [e, List.getElem_cons_zero, List.drop_succ_cons, List.drop_zero]
theorem within_wrap (N : Nat) (h : N < 18446744073709551616) : within (IntKind.i64.wrap (N : Int)) 1 1999999999999999999 = decide (1 ≤ N ∧ N ≤ 1999999999999999999) := by
  rw [within, IntKind.wrap_i64, Bool.eq_iff_iff]
  simp only [Bool.and_eq_true, decide_eq_true_eq]
  omega
def c_spec_l02Take : LC :=
 .seq (.ops [⟨some 2, none, .mov (.const (.string ⟨#[]⟩))⟩, ⟨some 3, none, .mov (.const (.string ⟨#[]⟩))⟩, ⟨some 4, none, .mov (.const (.bool false))⟩]) (.seq (.seq (.ops [⟨some 8, none, .mov (.tmp 0)⟩, ⟨some 9, none,
 .indexStr (.tmp 8) (.const (.int .i64 0))⟩, ⟨some 10, none, .bin .eql false (.tmp 9) (.const (.int .u8 1))⟩, ⟨some 11, none, .mov (.tmp 10)⟩, ⟨some 12, (some (11, true)), .mov (.tmp 0)⟩, ⟨some 13, (some (11, true)),
 .lenStr (.tmp 12)⟩, ⟨some 14, (some (11, true)), .bin .geq false (.tmp 13) (.const (.int .i64 9))⟩, ⟨some 15, none, .pick (.tmp 11) (.tmp 14) (.const (.bool false))⟩]) (.cond (.tmp 15) (.seq (.ops [⟨some 16, none, .mov
 (.tmp 0)⟩, ⟨some 17, none, .sliceStr (.tmp 16) (some (.const (.int .i64 1))) (some (.const (.int .i64 9)))⟩, ⟨some 18, none, .call 213 [.tmp 17]⟩, ⟨some 5, none, .mov (.tmp 18)⟩]) (.seq (.seq (.ops [⟨some 19, none, .mov
 (.tmp 5)⟩, ⟨some 20, none, .call 97 [.tmp 19, .const (.int .i64 1), .const (.int .i64 1999999999999999999)]⟩, ⟨some 21, none, .un .not (.tmp 20)⟩]) (.cond (.tmp 21) (.seq (.ops [⟨some 2, none, .mov (.const (.string
 ⟨#[]⟩))⟩, ⟨some 3, none, .mov (.const (.string ⟨#[]⟩))⟩, ⟨some 4, none, .mov (.const (.bool false))⟩]) (.ret)) (.skip))) (.seq (.dops [⟨some 22, none, .mov (.tmp 5)⟩, ⟨some 23, none, .bin .sub false (.tmp 22) (.const
 (.int .i64 1000000000000000000))⟩, ⟨some 24, none, .call 214 [.tmp 23]⟩, ⟨some 25, none, .mov (.tmp 0)⟩, ⟨some 26, none, .sliceStr (.tmp 25) (some (.const (.int .i64 9))) none⟩, ⟨some 2, none, .mov (.tmp 24)⟩, ⟨some 3,
 none, .mov (.tmp 26)⟩, ⟨some 4, none, .mov (.const (.bool true))⟩]) (.ret)))) (.skip))) (.seq (.seq (.ops [⟨some 27, none, .mov (.tmp 0)⟩, ⟨some 28, none, .indexStr (.tmp 27) (.const (.int .i64 0))⟩, ⟨some 29, none, .bin
 .neq false (.tmp 28) (.const (.int .u8 2))⟩]) (.cond (.tmp 29) (.seq (.ops [⟨some 2, none, .mov (.const (.string ⟨#[]⟩))⟩, ⟨some 3, none, .mov (.const (.string ⟨#[]⟩))⟩, ⟨some 4, none, .mov (.const (.bool false))⟩])
 (.ret)) (.skip))) (.seq (.ops [⟨some 30, none, .buildSlice 5 1 (.int .u8 0) 0 []⟩, ⟨some 6, none, .mov (.tmp 30)⟩]) (.seq (.seq (.ops [⟨some 7, none, .mov (.const (.int .i64 1))⟩]) (.block 0 (.loop (.seq (.seq (.ops
 [⟨some 31, none, .mov (.tmp 7)⟩, ⟨some 32, none, .bin .add false (.tmp 31) (.const (.int .i64 1))⟩, ⟨some 33, none, .mov (.tmp 0)⟩, ⟨some 34, none, .lenStr (.tmp 33)⟩, ⟨some 35, none, .bin .lss false (.tmp 32) (.tmp
 34)⟩]) (.cond (.tmp 35) (.skip) (.exit 0))) (.seq (.block 1 (.seq (.seq (.ops [⟨some 38, none, .mov (.tmp 0)⟩, ⟨some 39, none, .mov (.tmp 7)⟩, ⟨some 40, none, .indexStr (.tmp 38) (.tmp 39)⟩, ⟨some 41, none, .bin .neq
 false (.tmp 40) (.const (.int .u8 0))⟩]) (.cond (.tmp 41) (.seq (.ops [⟨some 42, none, .mov (.tmp 6)⟩, ⟨some 43, none, .mov (.tmp 0)⟩, ⟨some 44, none, .mov (.tmp 7)⟩, ⟨some 45, none, .indexStr (.tmp 43) (.tmp 44)⟩, ⟨some
 46, none, .buildSlice 5 1 (.int .u8 0) 1 [(0, .tmp 45)]⟩, ⟨some 47, none, .append 5 1 1 (.tmp 42) (.tmp 46)⟩, ⟨some 6, none, .mov (.tmp 47)⟩]) (.exit 1)) (.skip))) (.seq (.seq (.ops [⟨some 48, none, .mov (.tmp 0)⟩, ⟨some
 49, none, .mov (.tmp 7)⟩, ⟨some 50, none, .bin .add false (.tmp 49) (.const (.int .i64 1))⟩, ⟨some 51, none, .indexStr (.tmp 48) (.tmp 50)⟩, ⟨some 52, none, .bin .eql false (.tmp 51) (.const (.int .u8 0))⟩]) (.cond (.tmp
 52) (.seq (.dops [⟨some 53, none, .mov (.tmp 6)⟩, ⟨some 54, none, .toStr (.tmp 53)⟩, ⟨some 55, none, .mov (.tmp 0)⟩, ⟨some 56, none, .mov (.tmp 7)⟩, ⟨some 57, none, .bin .add false (.tmp 56) (.const (.int .i64 2))⟩, ⟨some
 58, none, .sliceStr (.tmp 55) (some (.tmp 57)) none⟩, ⟨some 2, none, .mov (.tmp 54)⟩, ⟨some 3, none, .mov (.tmp 58)⟩, ⟨some 4, none, .mov (.const (.bool true))⟩]) (.ret)) (.skip))) (.seq (.seq (.ops [⟨some 59, none, .mov
 (.tmp 0)⟩, ⟨some 60, none, .mov (.tmp 7)⟩, ⟨some 61, none, .bin .add false (.tmp 60) (.const (.int .i64 1))⟩, ⟨some 62, none, .indexStr (.tmp 59) (.tmp 61)⟩, ⟨some 63, none, .bin .neq false (.tmp 62) (.const (.int .u8
 255))⟩]) (.cond (.tmp 63) (.seq (.ops [⟨some 2, none, .mov (.const (.string ⟨#[]⟩))⟩, ⟨some 3, none, .mov (.const (.string ⟨#[]⟩))⟩, ⟨some 4, none, .mov (.const (.bool false))⟩]) (.ret)) (.skip))) (.seq (.ops [⟨some 64,
 none, .mov (.tmp 6)⟩, ⟨some 65, none, .buildSlice 5 1 (.int .u8 0) 1 [(0, .const (.int .u8 0))]⟩, ⟨some 66, none, .append 5 1 1 (.tmp 64) (.tmp 65)⟩, ⟨some 6, none, .mov (.tmp 66)⟩]) (.ops [⟨some 67, none, .mov (.tmp 7)⟩,
 ⟨some 68, none, .bin .add false (.tmp 67) (.const (.int .i64 1))⟩, ⟨some 7, none, .mov (.tmp 68)⟩])))))) (.ops [⟨some 36, none, .mov (.tmp 7)⟩, ⟨some 37, none, .bin .add false (.tmp 36) (.const (.int .i64 1))⟩, ⟨some 7,
 none, .mov (.tmp 37)⟩])))))) (.seq (.ops [⟨some 2, none, .mov (.const (.string ⟨#[]⟩))⟩, ⟨some 3, none, .mov (.const (.string ⟨#[]⟩))⟩, ⟨some 4, none, .mov (.const (.bool false))⟩]) (.ret))))))
def lf_spec_l02Take : LF := { np := 1, N := 69, body := c_spec_l02Take, res := [.tmp 2, .tmp 3, .tmp 4] }
theorem low_spec_l02Take : LowF Tryz.prog Tryz.f184 lf_spec_l02Take := LowF.mk' (by kernel_rfl) (by kernel_rfl) (by kernel_rfl) (by decide)

theorem spec_l02Take_ok (l : List UInt8) (hp : 0 < l.length) (hl : l.length ≤ 1048576) (h : List Row) : PureCall Tryz.prog 184 [.val (.string (txt l))] h (threeR (takeS l)) := by
  refine pure_fn mixed Tryz.func184 low_spec_l02Take rfl rfl ?_ h
  rw [takeS_at l hp]
  simp (disch := omega) only [lf_spec_l02Take, c_spec_l02Take, go_sem, reduceCtorEq, Int.reduceLE, ↓reduceIte]
  by_cases q1 : l[0] = 1
  · have q1' : ((l[0].toNat : Int) = 1) = True := by simp [q1]
    have q12 : ((l[0].toNat : Int) = 2) = False := by simp [q1]
    have q2n : ¬ l[0] = 2 := by rw [q1]; decide
    by_cases q9 : 9 ≤ l.length
    · have q9' : (9 : Int) ≤ l.length := by omega
      have e9 : List.drop 1 (List.take 9 l) = (l.drop 1).take 8 := by rw [List.drop_take]
      have e10 : List.drop 9 l = (l.drop 1).drop 8 := by rw [List.drop_drop]
      have hN := ofBe_take8_lt (l.drop 1)
      rw [if_pos ⟨q1, q9⟩]
      simp (disch := omega) only [q1', q9', e9, Ex_cond, go_sem, Nat.reduceEqDiff, Nat.reduceLeDiff, reduceCtorEq, Int.reduceLE, Int.reduceToNat, ↓reduceIte]
      refine PureCall.call (spec_l02Num_ok _ (by simp; omega) _) ?_
      simp (disch := omega) only [go_sem, ↓reduceIte]
      refine PureCall.call (spec_l00In_ok _ _ _ _) ?_
      rw [within_wrap _ hN]
      by_cases qr : 1 ≤ ofBe 0 ((l.drop 1).take 8) ∧ ofBe 0 ((l.drop 1).take 8) ≤ 1999999999999999999
      · rw [if_pos qr]
        have qr' : decide (1 ≤ ofBe 0 ((l.drop 1).take 8) ∧ ofBe 0 ((l.drop 1).take 8) ≤ 1999999999999999999) = true := by simpa using qr
        simp (disch := omega) only [qr', wrap_in, List.take_length, e10, Ex_cond, go_sem, Nat.reduceEqDiff, reduceCtorEq, Int.reduceLE, Int.reduceToNat, ↓reduceIte]
        refine PureCall.q (spec_l01Text_ok _ (by omega) (by omega) _) ?_
        exact ⟨2, rfl⟩
      · rw [if_neg qr]
        have qr' : decide (1 ≤ ofBe 0 ((l.drop 1).take 8) ∧ ofBe 0 ((l.drop 1).take 8) ≤ 1999999999999999999) = false := by simpa using qr
        simp (disch := omega) only [qr', Ex_cond, go_sem, Nat.reduceEqDiff, reduceCtorEq, Int.reduceLE, Int.reduceToNat, ↓reduceIte]
        exact ⟨2, rfl⟩
    · have q9' : ¬ (9 : Int) ≤ l.length := by omega
      rw [if_neg (fun z => q9 z.2), if_neg q2n]
      simp (disch := omega) only [q1', q9', q12, Ex_cond, go_sem, Nat.reduceEqDiff, Nat.reduceLeDiff, reduceCtorEq, Int.reduceLE, Int.reduceToNat, ↓reduceIte]
      exact ⟨2, rfl⟩
  · have q1' : ((l[0].toNat : Int) = 1) = False := by rw [eq_iff_iff, iff_false]; intro e; exact q1 (UInt8.toNat_inj.1 (by have h2 : (1 : UInt8).toNat = 1 := rfl; omega))
    rw [if_neg (fun z => q1 z.1)]
    by_cases q2 : l[0] = 2
    case neg =>
      have q2' : ((l[0].toNat : Int) = 2) = False := by rw [eq_iff_iff, iff_false]; intro e; exact q2 (UInt8.toNat_inj.1 (by have h2 : (2 : UInt8).toNat = 2 := rfl; omega))
      rw [if_neg q2]
      simp (disch := omega) only [q1', q2', Ex_cond, go_sem, Nat.reduceEqDiff, Nat.reduceLeDiff, reduceCtorEq, Int.reduceLE, Int.reduceToNat, ↓reduceIte]
      exact ⟨2, rfl⟩
    have q2' : ((l[0].toNat : Int) = 2) = True := by simp [q2]
    rw [if_pos q2]
    simp (disch := omega) only [q1', q2', Ex_cond, go_sem, Nat.reduceEqDiff, Nat.reduceLeDiff, reduceCtorEq, Int.reduceLE, Int.reduceToNat, ↓reduceIte]
    refine Ex_loop (fun n t h => ∃ (i : Nat) (acc : List UInt8) (rest : List Row), t 0 = .val (.string (txt l)) ∧ t 6 = .own 0 acc.length ∧ t 7 = .val (.int .i64 i) ∧ h = ⟨5, 1, byteCells acc⟩ :: rest ∧ n = l.length + 1 - i ∧ i ≤ l.length ∧ acc.length ≤ i ∧ unesc (l.drop 1) [] = unesc (l.drop i) acc) l.length ?_ ?_
    · exact ⟨1, [], [], rfl, rfl, rfl, rfl, by omega, by omega, by simp, rfl⟩
    rintro J hJ n t h ⟨i, acc, rest, t0, t6, t7, rfl, rfl, hi, hac, hS⟩
    have fl := byteCells_len acc
    by_cases hlt : i + 1 < l.length
    · have hlt' : (i : Int) + 1 < l.length := by omega
      have hlt0 : i < l.length := by omega
      have ei : (i : Int) + 1 = ((i + 1 : Nat) : Int) := by omega
      have ei2 : (i : Int) + 2 = ((i + 2 : Nat) : Int) := by omega
      rw [unesc_drop l acc i hlt] at hS
      by_cases r0 : l[i] = 0
      · rw [if_pos r0] at hS
        have r0' : ((l[i].toNat : Int) = 0) = True := by simp [r0]
        by_cases r1 : l[i + 1] = 0
        · rw [if_pos r1] at hS
          have r1' : ((l[i + 1].toNat : Int) = 0) = True := by simp [r1]
          simp (disch := omega) only [t0, t6, t7, ei, ei2, hlt, r0', r1', wrap_in, fl, mapM_bytes, List.take_length, Option.map_some, go_sem, Nat.reduceEqDiff, reduceCtorEq, ↓reduceIte]
          rw [hS]
          exact ⟨2, rfl⟩
        · rw [if_neg r1] at hS
          have r1' : ((l[i + 1].toNat : Int) = 0) = False := by rw [eq_iff_iff, iff_false]; intro e; exact r1 (UInt8.toNat_inj.1 (by have h2 : (0 : UInt8).toNat = 0 := rfl; omega))
          by_cases r2 : l[i + 1] = 255
          · rw [if_pos r2] at hS
            have r2' : ((l[i + 1].toNat : Int) = 255) = True := by simp [r2]
            simp (disch := omega) only [t0, t6, t7, ei, hlt, r0', r1', r2', wrap_in, fl, go_sem, Nat.reduceEqDiff, Nat.reduceLeDiff, reduceCtorEq, ↓reduceIte]
            refine ⟨by omega, by omega, ?_⟩
            try simp (disch := omega) only [t0, t6, t7, ei, ei2, hlt, hlt0, r0', r1', r2', wrap_in, fl, go_sem, Nat.reduceEqDiff, Nat.reduceAdd, Nat.reduceLeDiff, reduceCtorEq, Int.reduceLT, Int.reduceLE, Int.reduceNeg, Int.reduceSub, Int.reduceAdd, Int.reduceToNat, ↓reduceIte]
            exact ⟨l.length + 1 - (i + 2), by omega, hJ _ _ _ ⟨i + 2, acc ++ [0], rest ++ [⟨5, 1, byteCells [0]⟩], by simp [upd, t0], by simp [upd], by simp [upd]; try omega, by simp [byteCells], rfl, by omega, by simp; omega, hS⟩⟩
          · rw [if_neg r2] at hS
            have r2' : ((l[i + 1].toNat : Int) = 255) = False := by rw [eq_iff_iff, iff_false]; intro e; exact r2 (UInt8.toNat_inj.1 (by have h2 : (255 : UInt8).toNat = 255 := rfl; omega))
            simp (disch := omega) only [t0, t7, ei, hlt, r0', r1', r2', wrap_in, go_sem, Nat.reduceEqDiff, reduceCtorEq, ↓reduceIte]
            rw [hS]
            exact ⟨2, rfl⟩
      · rw [if_neg r0] at hS
        have r0' : ((l[i].toNat : Int) = 0) = False := by rw [eq_iff_iff, iff_false]; intro e; exact r0 (UInt8.toNat_inj.1 (by have h2 : (0 : UInt8).toNat = 0 := rfl; omega))
        simp (disch := omega) only [t0, t6, t7, ei, hlt, r0', wrap_in, fl, go_sem, Nat.reduceEqDiff, Nat.reduceLeDiff, reduceCtorEq, ↓reduceIte]
        refine ⟨by omega, by omega, ?_⟩
        try simp (disch := omega) only [t0, t6, t7, ei, ei2, hlt, hlt0, r0', wrap_in, fl, go_sem, Nat.reduceEqDiff, Nat.reduceAdd, Nat.reduceLeDiff, reduceCtorEq, Int.reduceLT, Int.reduceLE, Int.reduceNeg, Int.reduceSub, Int.reduceAdd, Int.reduceToNat, ↓reduceIte]
        exact ⟨l.length + 1 - (i + 1), by omega, hJ _ _ _ ⟨i + 1, acc ++ [l[i]], rest ++ [⟨5, 1, byteCells [l[i]]⟩], by simp [upd, t0], by simp [upd], by simp [upd]; try omega, by simp [byteCells], rfl, by omega, by simp; omega, hS⟩⟩
    · have hlt' : ¬ (i : Int) + 1 < l.length := by omega
      simp (disch := omega) only [t0, t7, hlt', wrap_in, go_sem, Nat.reduceEqDiff, reduceCtorEq, ↓reduceIte]
      rw [hS, unesc_end l acc i (by omega)]
      exact ⟨2, rfl⟩
end Go.Proofs.YtclhpcfpchpbnaaGreatDoor
