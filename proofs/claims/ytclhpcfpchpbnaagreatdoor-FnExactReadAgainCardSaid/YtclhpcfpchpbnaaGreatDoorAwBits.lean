/-
  AW, part 32: shifts and bits; the bytes of a number; ReplaceAll of noughts.
-/
import Derived.Test.YtclhpcfpchpbnaaGreatDoorAwC
import Derived.Test.YtclhpcfpchpbnaaGreatDoorPlKey
import Derived.Lib.Replace
namespace Go.AW
set_option linter.unusedVariables false
set_option linter.unusedSimpArgs false

theorem bin_shr (q : Bool) (k yk : IntKind) (a b : Int) (hb : 0 ≤ b) : binEval .shr q (.val (.int k a)) (.val (.int yk b)) = some (.val (.int k (a.fdiv (2 ^ (min b.toNat k.bits))))) := by
  have : binEval .shr q (.val (.int k a)) (.val (.int yk b)) = purely (Op.shift .shr k a yk b) := by rfl
  rw [this, Op.shift, if_neg (by omega)]; rfl
theorem bin_shl (q : Bool) (k yk : IntKind) (a b : Int) (hb : 0 ≤ b) : binEval .shl q (.val (.int k a)) (.val (.int yk b)) = some (.val (.int k (k.wrap (a * 2 ^ (min b.toNat k.bits))))) := by
  have : binEval .shl q (.val (.int k a)) (.val (.int yk b)) = purely (Op.shift .shl k a yk b) := by rfl
  rw [this, Op.shift, if_neg (by omega)]; rfl
theorem bin_addU (q : Bool) (a b : Int) : binEval .add q (.val (.int .u64 a)) (.val (.int .u64 b)) = some (.val (.int .u64 (IntKind.u64.wrap (a + b)))) := rfl
theorem bin_orI (q : Bool) (a b : Int) : binEval .or q (.val (.int .i64 a)) (.val (.int .i64 b)) = some (.val (.int .i64 (IntKind.i64.wrap ((BitVec.ofInt 64 a ||| BitVec.ofInt 64 b).toNat : Int)))) := rfl
theorem wrapU_in {n : Int} (h1 : 0 ≤ n) (h2 : n ≤ 18446744073709551615) : IntKind.u64.wrap n = n := by
  have : IntKind.u64.wrap n = n % 18446744073709551616 := by simp [IntKind.wrap, IntKind.bits, IntKind.signed]
  rw [this]; omega
theorem wrapB_byte (n j : Nat) : IntKind.u8.wrap ((n / 256 ^ j : Nat) : Int) = ((byteAt n j).toNat : Int) := by
  rw [IntKind.wrap_u8, byteAt_toNat]; omega
theorem shr_byte (n j : Nat) (h : j ≤ 7) : ((n : Int).fdiv (2 ^ (min (8 * (j : Int)).toNat 64))) = ((n / 256 ^ j : Nat) : Int) := by
  have e1 : min (8 * (j : Int)).toNat 64 = 8 * j := by omega
  rw [e1, Int.fdiv_eq_ediv_of_nonneg _ (Int.pow_nonneg (by decide))]
  have e2 : (2 : Int) ^ (8 * j) = ((256 ^ j : Nat) : Int) := by
    rw [Int.pow_mul]
    simp
  rw [e2, Int.natCast_ediv]
theorem or_byte (x b : Nat) (h : b < 256) (hx : x < 9223372036854775808 * 2) : (BitVec.ofInt 64 (IntKind.i64.wrap ((IntKind.i64.wrap (x : Int)) * 2 ^ (min (8 : Int).toNat 64))) ||| BitVec.ofInt 64 (b : Int)).toNat = (x * 256 + b) % 18446744073709551616 := by
  have h8 : (2 : Int) ^ (min (8 : Int).toNat 64) = 256 := by decide
  rw [h8]
  have e1 : BitVec.ofInt 64 (IntKind.i64.wrap ((IntKind.i64.wrap (x : Int)) * 256)) = BitVec.ofNat 64 (x * 256) := by
    apply BitVec.eq_of_toNat_eq
    rw [BitVec.toNat_ofInt, BitVec.toNat_ofNat, IntKind.wrap_i64, IntKind.wrap_i64]
    omega
  have e2 : BitVec.ofInt 64 (b : Int) = BitVec.ofNat 64 b := by
    apply BitVec.eq_of_toNat_eq
    rw [BitVec.toNat_ofInt, BitVec.toNat_ofNat]; omega
  rw [e1, e2, BitVec.toNat_or, BitVec.toNat_ofNat, BitVec.toNat_ofNat]
  have e3 : b % 2 ^ 64 = b := Nat.mod_eq_of_lt (by omega)
  have e4 : x * 256 % 2 ^ 64 = 2 ^ 8 * (x % 2 ^ 56) := by omega
  rw [e3, e4, ← Nat.two_pow_add_eq_or_of_lt (by omega)]
  omega
theorem ofBe_snoc (acc : Nat) (l : List UInt8) (b : UInt8) : ofBe acc (l ++ [b]) = ofBe acc l * 256 + b.toNat := by
  unfold ofBe; rw [List.foldl_append]; rfl

theorem replaceK_cons (b : UInt8) (l : List UInt8) (hb : b ≠ 0) : ∀ k : Nat, Lib.replaceK [0] [0, 255] k (b :: l) = b :: Lib.replaceK [0] [0, 255] k l
  | 0 => rfl
  | k + 1 => by
    have hge := Lib.indexByte_ge l 0
    have e : Lib.index (b :: l) [0] = if Lib.index l [0] == -1 then -1 else Lib.index l [0] + 1 := by
      rw [Lib.index_one, Lib.index_one, Lib.indexByte, if_neg (by simpa using hb)]
    rw [Lib.replaceK, Lib.replaceK, e]
    rw [← Lib.index_one] at hge
    by_cases h : Lib.index l [0] = -1
    · simp [h]
    · have hn : (Lib.index l [0] == -1) = false := by simpa using h
      obtain ⟨i, hi⟩ : ∃ i : Nat, Lib.index l [0] = i := ⟨(Lib.index l [0]).toNat, by omega⟩
      have hn2 : (((i : Int) + 1) == -1) = false := by simp; omega
      have hn3 : (((i : Int)) == -1) = false := by simp
      simp only [hi, hn2, hn3, Bool.false_eq_true, if_false]
      have t1 : ((i : Int) + 1).toNat = i + 1 := by omega
      have t2 : ((i : Int)).toNat = i := by omega
      rw [t1, t2]
      simp [List.take_succ_cons, List.drop_succ_cons]
theorem replaceK_esc : ∀ l : List UInt8, Lib.replaceK [0] [0, 255] (l.count 0) l = esc l
  | [] => rfl
  | b :: l => by
    by_cases h : b = 0
    · subst h
      have e : Lib.index ((0 : UInt8) :: l) [0] = 0 := by rw [Lib.index_one, Lib.indexByte]; rfl
      rw [List.count_cons_self, Lib.replaceK, e, esc, if_pos rfl]
      simp only [Int.reduceNeg, beq_iff_eq, Int.reduceEq, if_false, Int.toNat_zero, List.take_zero, List.nil_append, Nat.zero_add, List.length_singleton, List.drop_succ_cons, List.drop_zero]
      rw [replaceK_esc l]; rfl
    · rw [List.count_cons_of_ne (by simpa using h), replaceK_cons b l h, replaceK_esc l, esc, if_neg h]
theorem replaceAll_esc (l : List UInt8) : Lib.replaceAll l [0] [0, 255] = esc l := by
  rw [Lib.replaceAll, Lib.replace, if_neg (by decide), Lib.replaceNum, if_pos (.inl (by decide)), Lib.count_one, replaceK_esc]
end Go.AW
