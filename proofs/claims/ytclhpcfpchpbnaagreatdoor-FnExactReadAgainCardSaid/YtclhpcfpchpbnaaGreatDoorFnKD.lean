/-
  Contracts of functions of this program, over abstract values. Conditions: as each theorem says.
-/
import Derived.Test.YtclhpcfpchpbnaaGreatDoorFnKC
namespace Go.Proofs.YtclhpcfpchpbnaaGreatDoor
open Go.AW
set_option linter.unusedVariables false
set_option linter.unusedSimpArgs false
set_option maxRecDepth 4000

/-- Two texts and a word. -/
def threeR : Option (List UInt8 × List UInt8) → AV
  | some (t, r) => .tup [.val (.string (txt t)), .val (.string (txt r)), .val (.bool true)]
  | none => .tup [.val (.string (txt [])), .val (.string (txt [])), .val (.bool false)]
def c_impl_getString : LC :=
 .seq (.ops [⟨some 2, none, .mov (.const (.string ⟨#[]⟩))⟩, ⟨some 3, none, .mov (.const (.string ⟨#[]⟩))⟩, ⟨some 4, none, .mov (.const (.bool false))⟩]) (.seq (.ops [⟨some 5, none, .alloc 180 (.agg #[.pointer none, .slice
 none 0 0])⟩]) (.seq (.seq (.ops [⟨some 6, none, .mov (.const (.int .i64 0))⟩]) (.block 0 (.loop (.seq (.seq (.ops [⟨some 7, none, .mov (.tmp 6)⟩, ⟨some 8, none, .bin .add false (.tmp 7) (.const (.int .i64 1))⟩, ⟨some 9,
 none, .mov (.tmp 0)⟩, ⟨some 10, none, .lenStr (.tmp 9)⟩, ⟨some 11, none, .bin .lss false (.tmp 8) (.tmp 10)⟩]) (.cond (.tmp 11) (.skip) (.exit 0))) (.seq (.block 1 (.seq (.seq (.ops [⟨some 14, none, .mov (.tmp 0)⟩, ⟨some
 15, none, .mov (.tmp 6)⟩, ⟨some 16, none, .indexStr (.tmp 14) (.tmp 15)⟩, ⟨some 17, none, .bin .neq false (.tmp 16) (.const (.int .u8 0))⟩]) (.cond (.tmp 17) (.seq (.ops [⟨some 18, none, .mov (.tmp 0)⟩, ⟨some 19, none,
 .mov (.tmp 6)⟩, ⟨some 20, none, .indexStr (.tmp 18) (.tmp 19)⟩, ⟨some 21, none, .call 226 [.tmp 5, .tmp 20]⟩]) (.exit 1)) (.skip))) (.seq (.ops [⟨some 22, none, .mov (.tmp 0)⟩, ⟨some 23, none, .mov (.tmp 6)⟩, ⟨some 24,
 none, .bin .add false (.tmp 23) (.const (.int .i64 1))⟩, ⟨some 25, none, .indexStr (.tmp 22) (.tmp 24)⟩]) (.block 2 (.seq (.ops [⟨some 27, none, .bin .eql false (.tmp 25) (.const (.int .u8 0))⟩, ⟨some 26, none, .mov (.tmp
 27)⟩]) (.cond (.tmp 26) (.seq (.dops [⟨some 28, none, .call 201 [.tmp 5]⟩, ⟨some 29, none, .mov (.tmp 0)⟩, ⟨some 30, none, .mov (.tmp 6)⟩, ⟨some 31, none, .bin .add false (.tmp 30) (.const (.int .i64 2))⟩, ⟨some 32, none,
 .sliceStr (.tmp 29) (some (.tmp 31)) none⟩, ⟨some 2, none, .mov (.tmp 28)⟩, ⟨some 3, none, .mov (.tmp 32)⟩, ⟨some 4, none, .mov (.const (.bool true))⟩]) (.ret)) (.seq (.ops [⟨some 34, none, .bin .eql false (.tmp 25)
 (.const (.int .u8 255))⟩, ⟨some 33, none, .mov (.tmp 34)⟩]) (.cond (.tmp 33) (.seq (.ops [⟨some 35, none, .call 226 [.tmp 5, .const (.int .u8 0)]⟩]) (.ops [⟨some 36, none, .mov (.tmp 6)⟩, ⟨some 37, none, .bin .add false
 (.tmp 36) (.const (.int .i64 1))⟩, ⟨some 6, none, .mov (.tmp 37)⟩])) (.seq (.ops [⟨some 2, none, .mov (.const (.string ⟨#[]⟩))⟩, ⟨some 3, none, .mov (.const (.string ⟨#[]⟩))⟩, ⟨some 4, none, .mov (.const (.bool false))⟩])
 (.ret)))))))))) (.ops [⟨some 12, none, .mov (.tmp 6)⟩, ⟨some 13, none, .bin .add false (.tmp 12) (.const (.int .i64 1))⟩, ⟨some 6, none, .mov (.tmp 13)⟩])))))) (.seq (.ops [⟨some 2, none, .mov (.const (.string ⟨#[]⟩))⟩,
 ⟨some 3, none, .mov (.const (.string ⟨#[]⟩))⟩, ⟨some 4, none, .mov (.const (.bool false))⟩]) (.ret))))
def lf_impl_getString : LF := { np := 1, N := 38, body := c_impl_getString, res := [.tmp 2, .tmp 3, .tmp 4] }
theorem low_impl_getString : LowF Tryz.prog Tryz.f223 lf_impl_getString := LowF.mk' (by kernel_rfl) (by kernel_rfl) (by kernel_rfl) (by decide)

theorem impl_getString_ok (l : List UInt8) (hl : l.length ≤ 1048576) (h : List Row) : PureCall Tryz.prog 223 [.val (.string (txt l))] h (threeR (unesc l [])) := by
  refine pure_of_callB (T := 180) (e := 5) (by cases unesc l [] <;> rfl) rfl ?_ h
  refine callB_fn (by decide) mixed Tryz.func223 low_impl_getString rfl ?_
  have hz : zBld = .agg #[.pointer none, .slice none 0 0] := rfl
  simp (disch := omega) only [lf_impl_getString, c_impl_getString, ← hz, go_sem]
  refine fun b => ?_
  refine BEx_loop (fun n t σ => ∃ (i : Nat) (acc : List UInt8), t 0 = .val (.string (txt l)) ∧ t 5 = bldP b ∧ t 6 = .val (.int .i64 i) ∧ σ = some (b, acc) ∧ n = l.length - i ∧ i ≤ l.length ∧ acc.length ≤ i ∧ unesc l [] = unesc (l.drop i) acc) l.length ?_ ?_
  · exact ⟨0, [], rfl, rfl, rfl, rfl, rfl, by omega, Nat.le_refl _, rfl⟩
  · rintro J hJ n t σ ⟨i, acc, t0, t5, t6, rfl, rfl, hi, hac, hS⟩
    by_cases hlt : i + 1 < l.length
    · have hlt' : (i : Int) + 1 < l.length := by omega
      have hlt0 : i < l.length := by omega
      have ei : (i : Int) + 1 = ((i + 1 : Nat) : Int) := by omega
      have ei2 : (i : Int) + 2 = ((i + 2 : Nat) : Int) := by omega
      rw [unesc_drop l acc i hlt] at hS
      by_cases q : l[i] = 0
      · rw [if_pos q] at hS
        have q' : ((l[i].toNat : Int) = 0) = True := by simp [q]
        by_cases q1 : l[i + 1] = 0
        · rw [if_pos q1] at hS
          have q1' : ((l[i + 1].toNat : Int) = 0) = True := by simp [q1]
          simp (disch := omega) only [t0, t5, t6, ei, ei2, hlt, q', q1', wrap_in, go_sem, Nat.reduceEqDiff, reduceCtorEq, ↓reduceIte]
          refine ⟨_, wText ⟨rfl, rfl⟩, ?_⟩
          rw [hS, List.take_length]; rfl
        · rw [if_neg q1] at hS
          have q1' : ((l[i + 1].toNat : Int) = 0) = False := by rw [eq_iff_iff, iff_false]; intro e; exact q1 (UInt8.toNat_inj.1 (by have h2 : (0 : UInt8).toNat = 0 := rfl; omega))
          by_cases q2 : l[i + 1] = 255
          · rw [if_pos q2] at hS
            have q2' : ((l[i + 1].toNat : Int) = 255) = True := by simp [q2]
            simp (disch := omega) only [t0, t5, t6, ei, hlt, q', q1', q2', wrap_in, go_sem, Nat.reduceEqDiff, reduceCtorEq, ↓reduceIte]
            refine wByte (c := 0) (by omega) ?_
            simp (disch := omega) only [t6, ei, wrap_in, go_sem, Nat.reduceEqDiff, ↓reduceIte]
            exact ⟨l.length - (i + 2), by omega, hJ _ _ _ ⟨i + 2, acc ++ [0], by simp [upd, t0], by simp [upd, t5], by simp [upd]; omega, rfl, rfl, by omega, by simp; omega, hS⟩⟩
          · rw [if_neg q2] at hS
            have q2' : ((l[i + 1].toNat : Int) = 255) = False := by rw [eq_iff_iff, iff_false]; intro e; exact q2 (UInt8.toNat_inj.1 (by have h2 : (255 : UInt8).toNat = 255 := rfl; omega))
            simp (disch := omega) only [t0, t6, ei, hlt, q', q1', q2', wrap_in, go_sem, Nat.reduceEqDiff, reduceCtorEq, ↓reduceIte]
            rw [hS]; rfl
      · rw [if_neg q] at hS
        have q' : ((l[i].toNat : Int) = 0) = False := by rw [eq_iff_iff, iff_false]; intro e; exact q (UInt8.toNat_inj.1 (by have h2 : (0 : UInt8).toNat = 0 := rfl; omega))
        simp (disch := omega) only [t0, t5, t6, ei, hlt, q', wrap_in, go_sem, Nat.reduceEqDiff, reduceCtorEq, ↓reduceIte]
        refine wByte (c := l[i]) (by omega) ?_
        simp (disch := omega) only [t6, ei, wrap_in, go_sem, Nat.reduceEqDiff, ↓reduceIte]
        exact ⟨l.length - (i + 1), by omega, hJ _ _ _ ⟨i + 1, acc ++ [l[i]], by simp [upd, t0], by simp [upd, t5], by simp [upd]; try omega, rfl, rfl, by omega, by simp; omega, hS⟩⟩
    · have hlt' : ¬ (i : Int) + 1 < l.length := by omega
      simp (disch := omega) only [t0, t6, hlt', wrap_in, go_sem, Nat.reduceEqDiff, reduceCtorEq, ↓reduceIte]
      rw [hS, unesc_end l acc i (by omega)]; rfl

/-- A number of eight bytes, as impl reads it. -/
def numI (l : List UInt8) : Option (List UInt8 × List UInt8) := if l.length < 8 then none else if 2000000000000000000 < ofBe 0 (l.take 8) then none else some (numTextK ((ofBe 0 (l.take 8) : Int) - 1000000000000000000), l.drop 8)
theorem shl8 (q : Bool) (a : Int) : binEval .shl q (.val (.int .u64 a)) (.val (.int .u64 8)) = some (.val (.int .u64 (IntKind.u64.wrap (a * 256)))) := by
  rw [bin_shl _ _ _ _ _ (by decide)]; rfl
theorem ofBe_take (l : List UInt8) (k : Nat) (h : k < l.length) : ofBe 0 (l.take (k + 1)) = ofBe 0 (l.take k) * 256 + l[k].toNat := by
  rw [List.take_succ_eq_append_getElem h, ofBe_snoc]
theorem ofBe_take_lt (l : List UInt8) (k : Nat) (h : k ≤ 7) : ofBe 0 (l.take k) < 72057594037927936 := by
  have h1 := ofBe_lt (l.take k) 0
  have h2 : (l.take k).length ≤ 7 := by rw [List.length_take]; omega
  have h3 : 256 ^ (l.take k).length ≤ 256 ^ 7 := Nat.pow_le_pow_right (by decide) h2
  omega
theorem ofBe_take8_lt (l : List UInt8) : ofBe 0 (l.take 8) < 18446744073709551616 := by
  have h1 := ofBe_lt (l.take 8) 0
  have h2 : (l.take 8).length ≤ 8 := by rw [List.length_take]; omega
  have h3 : 256 ^ (l.take 8).length ≤ 256 ^ 8 := Nat.pow_le_pow_right (by decide) h2
  omega
theorem numTextI_K (n : Int) : numTextI n = numTextK n := by
  unfold numTextI numTextK
  by_cases h : isNumI n = true
  · rw [if_pos h, if_pos ((isNumI_iff n).1 h)]
  · rw [if_neg h, if_neg (fun q => h ((isNumI_iff n).2 q))]
def c_impl_getNumber : LC :=
 .seq (.ops [⟨some 2, none, .mov (.const (.string ⟨#[]⟩))⟩, ⟨some 3, none, .mov (.const (.string ⟨#[]⟩))⟩, ⟨some 4, none, .mov (.const (.bool false))⟩]) (.seq (.seq (.ops [⟨some 7, none, .mov (.tmp 0)⟩, ⟨some 8, none,
 .lenStr (.tmp 7)⟩, ⟨some 9, none, .bin .lss false (.tmp 8) (.const (.int .i64 8))⟩]) (.cond (.tmp 9) (.seq (.ops [⟨some 2, none, .mov (.const (.string ⟨#[]⟩))⟩, ⟨some 3, none, .mov (.const (.string ⟨#[]⟩))⟩, ⟨some 4,
 none, .mov (.const (.bool false))⟩]) (.ret)) (.skip))) (.seq (.ops [⟨some 5, none, .mov (.const (.int .u64 0))⟩]) (.seq (.seq (.ops [⟨some 10, none, .mov (.const (.int .i64 0))⟩]) (.block 0 (.loop (.seq (.ops [⟨some 11,
 none, .bin .lss false (.tmp 10) (.const (.int .i64 8))⟩]) (.seq (.cond (.tmp 11) (.skip) (.exit 0)) (.seq (.block 1 (.seq (.ops [⟨some 12, none, .mov (.tmp 10)⟩, ⟨some 6, none, .mov (.tmp 12)⟩]) (.ops [⟨some 13, none,
 .mov (.tmp 5)⟩, ⟨some 14, none, .bin .shl false (.tmp 13) (.const (.int .u64 8))⟩, ⟨some 15, none, .mov (.tmp 0)⟩, ⟨some 16, none, .mov (.tmp 6)⟩, ⟨some 17, none, .indexStr (.tmp 15) (.tmp 16)⟩, ⟨some 18, none, .convInt
 .u64 (.tmp 17)⟩, ⟨some 19, none, .bin .add false (.tmp 14) (.tmp 18)⟩, ⟨some 5, none, .mov (.tmp 19)⟩]))) (.ops [⟨some 20, none, .bin .add false (.tmp 10) (.const (.int .i64 1))⟩, ⟨some 10, none, .mov (.tmp 20)⟩])))))))
 (.seq (.seq (.ops [⟨some 21, none, .mov (.tmp 5)⟩, ⟨some 22, none, .bin .gtr false (.tmp 21) (.const (.int .u64 2000000000000000000))⟩]) (.cond (.tmp 22) (.seq (.ops [⟨some 2, none, .mov (.const (.string ⟨#[]⟩))⟩, ⟨some
 3, none, .mov (.const (.string ⟨#[]⟩))⟩, ⟨some 4, none, .mov (.const (.bool false))⟩]) (.ret)) (.skip))) (.seq (.dops [⟨some 23, none, .mov (.tmp 5)⟩, ⟨some 24, none, .convInt .i64 (.tmp 23)⟩, ⟨some 25, none, .bin .sub
 false (.tmp 24) (.const (.int .i64 1000000000000000000))⟩, ⟨some 26, none, .call 233 [.tmp 25]⟩, ⟨some 27, none, .mov (.tmp 0)⟩, ⟨some 28, none, .sliceStr (.tmp 27) (some (.const (.int .i64 8))) none⟩, ⟨some 2, none, .mov
 (.tmp 26)⟩, ⟨some 3, none, .mov (.tmp 28)⟩, ⟨some 4, none, .mov (.const (.bool true))⟩]) (.ret))))))
def lf_impl_getNumber : LF := { np := 1, N := 29, body := c_impl_getNumber, res := [.tmp 2, .tmp 3, .tmp 4] }
theorem low_impl_getNumber : LowF Tryz.prog Tryz.f222 lf_impl_getNumber := LowF.mk' (by kernel_rfl) (by kernel_rfl) (by kernel_rfl) (by decide)

theorem impl_getNumber_ok (l : List UInt8) (hl : l.length ≤ 1048576) (h : List Row) : PureCall Tryz.prog 222 [.val (.string (txt l))] h (threeR (numI l)) := by
  refine pure_fn mixed Tryz.func222 low_impl_getNumber rfl rfl ?_ h
  simp (disch := omega) only [lf_impl_getNumber, c_impl_getNumber, go_sem, reduceCtorEq, ↓reduceIte]
  by_cases h8 : (l.length : Int) < 8
  · simp (disch := omega) only [h8, go_sem, Nat.reduceEqDiff, ↓reduceIte]
    rw [numI, if_pos (by omega)]
    exact ⟨2, rfl⟩
  simp (disch := omega) only [h8, go_sem]
  refine Ex_loop (fun n t h => ∃ k : Nat, t 0 = .val (.string (txt l)) ∧ t 5 = .val (.int .u64 (ofBe 0 (l.take k))) ∧ t 10 = .val (.int .i64 k) ∧ h = [] ∧ n = 8 - k ∧ k ≤ 8) 8 ?_ ?_
  · exact ⟨0, rfl, rfl, rfl, rfl, rfl, by omega⟩
  rintro J hJ n t h ⟨k, t0, t5, t10, rfl, rfl, hk⟩
  by_cases hlt : k < 8
  · have hkl : k < l.length := by omega
    have hkI : (k : Int) < 8 := by omega
    have hb := ofBe_take_lt l k (by omega)
    have hu := u8_lt l[k]
    simp (disch := omega) only [t0, t5, t10, hkI, shl8, bin_addU, wrapU_in, wrap_in, go_sem, Nat.reduceEqDiff, reduceCtorEq, ↓reduceIte]
    exact ⟨8 - (k + 1), by omega, hJ _ _ _ ⟨k + 1, by simp [upd, t0], by simp only [upd]; rw [ofBe_take l k hkl]; simp, by simp [upd], rfl, rfl, by omega⟩⟩
  · have hk8 : k = 8 := by omega
    have hkI : ¬ (k : Int) < 8 := by omega
    rw [hk8] at t5
    have hb := ofBe_take8_lt l
    by_cases hg : (2000000000000000000 : Int) < (ofBe 0 (l.take 8) : Nat)
    · simp (disch := omega) only [t5, t10, hkI, hg, go_sem, Nat.reduceEqDiff, ↓reduceIte]
      rw [numI, if_neg (by omega), if_pos (by omega)]
      exact ⟨2, rfl⟩
    · simp (disch := omega) only [t0, t5, t10, hkI, hg, wrap_in, go_sem, Nat.reduceEqDiff, reduceCtorEq, Int.reduceLE, Int.reduceToNat, ↓reduceIte]
      refine PureCall.q (impl_NumText_ok _ _) ?_
      rw [numI, if_neg (by omega), if_neg (by omega), numTextI_K, List.take_length]
      exact ⟨2, rfl⟩
end Go.Proofs.YtclhpcfpchpbnaaGreatDoor
