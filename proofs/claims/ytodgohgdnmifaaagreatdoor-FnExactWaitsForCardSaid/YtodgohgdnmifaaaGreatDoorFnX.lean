/-
  Contracts of functions of this program, over abstract values. Conditions: as each theorem says.
-/
import Derived.Test.YtodgohgdnmifaaaGreatDoorFnW
import Derived.Test.YtodgohgdnmifaaaGreatDoorPlJobs
import Derived.Test.YtodgohgdnmifaaaGreatDoorAwC
namespace Go.Proofs.YtodgohgdnmifaaaGreatDoor
open Go.AW
set_option linter.unusedVariables false
set_option linter.unusedSimpArgs false
set_option maxRecDepth 4000

theorem putI_len : ∀ (zs : List Int) (n : Int), (putI zs n).length ≤ zs.length + 1
  | [], n => by simp [putI]
  | z :: r, n => by
    have := putI_len r n
    simp only [putI]
    split
    · split <;> simp
    · simp; omega
theorem putI_ne : ∀ (zs : List Int) (n : Int), putI zs n ≠ []
  | [], n => by simp [putI]
  | z :: r, n => by
    simp only [putI]
    split
    · split <;> simp
    · simp
theorem putI_at (zs : List Int) (k : Nat) (h : k < zs.length) (n : Int) : putI (zs.drop k) n = if n ≤ zs[k] then (if n < zs[k] then n :: zs.drop k else zs.drop k) else zs[k] :: putI (zs.drop (k + 1)) n := by
  conv => lhs; rw [List.drop_eq_getElem_cons h]
  rw [putI, ← List.drop_eq_getElem_cons h]
def c_spec_l00Put : LC :=
 .seq (.ops [⟨some 4, none, .mov (.const (.slice none 0 0))⟩]) (.seq (.ops [⟨some 8, none, .buildSlice 2 1 (.int .i64 0) 0 []⟩, ⟨some 5, none, .mov (.tmp 8)⟩]) (.seq (.ops [⟨some 6, none, .mov (.const (.bool false))⟩])
 (.seq (.seq (.ops [⟨some 7, none, .mov (.const (.int .i64 0))⟩]) (.block 0 (.loop (.seq (.seq (.ops [⟨some 9, none, .mov (.tmp 7)⟩, ⟨some 10, none, .mov (.tmp 0)⟩, ⟨some 11, none, .lenSl (.tmp 10)⟩, ⟨some 12, none, .bin
 .lss false (.tmp 9) (.tmp 11)⟩]) (.cond (.tmp 12) (.skip) (.exit 0))) (.seq (.block 1 (.seq (.seq (.ops [⟨some 15, none, .mov (.tmp 6)⟩, ⟨some 16, none, .un .not (.tmp 15)⟩, ⟨some 17, none, .mov (.tmp 16)⟩, ⟨some 18,
 (some (17, true)), .mov (.tmp 0)⟩, ⟨some 19, (some (17, true)), .mov (.tmp 7)⟩, ⟨some 20, (some (17, true)), .indexAddr 1 (.tmp 18) (.tmp 19)⟩, ⟨some 21, (some (17, true)), .load none (.tmp 20)⟩, ⟨some 22, (some (17,
 true)), .mov (.tmp 1)⟩, ⟨some 23, (some (17, true)), .bin .geq false (.tmp 21) (.tmp 22)⟩, ⟨some 24, none, .pick (.tmp 17) (.tmp 23) (.const (.bool false))⟩]) (.cond (.tmp 24) (.seq (.ops [⟨some 6, none, .mov (.const
 (.bool true))⟩]) (.seq (.ops [⟨some 25, none, .mov (.tmp 0)⟩, ⟨some 26, none, .mov (.tmp 7)⟩, ⟨some 27, none, .indexAddr 1 (.tmp 25) (.tmp 26)⟩, ⟨some 28, none, .load none (.tmp 27)⟩, ⟨some 29, none, .mov (.tmp 1)⟩, ⟨some
 30, none, .bin .gtr false (.tmp 28) (.tmp 29)⟩]) (.cond (.tmp 30) (.ops [⟨some 31, none, .mov (.tmp 5)⟩, ⟨some 32, none, .mov (.tmp 1)⟩, ⟨some 33, none, .buildSlice 2 1 (.int .i64 0) 1 [(0, .tmp 32)]⟩, ⟨some 34, none,
 .append 2 1 8 (.tmp 31) (.tmp 33)⟩, ⟨some 5, none, .mov (.tmp 34)⟩]) (.skip)))) (.skip))) (.ops [⟨some 35, none, .mov (.tmp 5)⟩, ⟨some 36, none, .mov (.tmp 0)⟩, ⟨some 37, none, .mov (.tmp 7)⟩, ⟨some 38, none, .indexAddr 1
 (.tmp 36) (.tmp 37)⟩, ⟨some 39, none, .load none (.tmp 38)⟩, ⟨some 40, none, .buildSlice 2 1 (.int .i64 0) 1 [(0, .tmp 39)]⟩, ⟨some 41, none, .append 2 1 8 (.tmp 35) (.tmp 40)⟩, ⟨some 5, none, .mov (.tmp 41)⟩]))) (.ops
 [⟨some 13, none, .mov (.tmp 7)⟩, ⟨some 14, none, .bin .add false (.tmp 13) (.const (.int .i64 1))⟩, ⟨some 7, none, .mov (.tmp 14)⟩])))))) (.seq (.seq (.ops [⟨some 42, none, .mov (.tmp 6)⟩, ⟨some 43, none, .un .not (.tmp
 42)⟩]) (.cond (.tmp 43) (.ops [⟨some 44, none, .mov (.tmp 5)⟩, ⟨some 45, none, .mov (.tmp 1)⟩, ⟨some 46, none, .buildSlice 2 1 (.int .i64 0) 1 [(0, .tmp 45)]⟩, ⟨some 47, none, .append 2 1 8 (.tmp 44) (.tmp 46)⟩, ⟨some 5,
 none, .mov (.tmp 47)⟩]) (.skip))) (.seq (.ops [⟨some 48, none, .mov (.tmp 5)⟩, ⟨some 4, none, .mov (.tmp 48)⟩]) (.ret))))))
def lf_spec_l00Put : LF := { np := 2, N := 49, body := c_spec_l00Put, res := [.tmp 4] }
theorem low_spec_l00Put : LowF Tryz.prog Tryz.f43 lf_spec_l00Put := LowF.mk' (by kernel_rfl) (by kernel_rfl) (by kernel_rfl) (by decide)

theorem spec_l00Put_fresh (zs : List Int) (n : Int) (hz : zs.length ≤ 4000000) : FreshCall Tryz.prog 43 [.list 0 1 (iCells zs), .val (.int .i64 n)] (.list 0 1 (iCells (putI zs n))) (fun a => ∃ l k, a = .own l k) := by
  refine fresh_fn mixed Tryz.func43 low_spec_l00Put rfl (fun h => ?_)
  simp (disch := omega) only [lf_spec_l00Put, c_spec_l00Put, go_sem, Nat.reduceEqDiff, Nat.reduceAdd, Nat.reduceLeDiff, reduceCtorEq, Int.reduceLT, Int.reduceLE, Int.reduceNeg, Int.reduceSub, Int.reduceAdd, Int.reduceToNat, ↓reduceIte]
  refine Ex_loop (fun m t h' => ∃ (k : Nat) (out : List Int) (d : Bool) (rest : List Row), t 0 = .list 0 1 (iCells zs) ∧ t 1 = .val (.int .i64 n) ∧ t 5 = .own h.length out.length ∧ t 6 = .val (.bool d) ∧ t 7 = .val (.int .i64 k) ∧ h' = h ++ (⟨2, 1, iCells out⟩ :: rest) ∧ m = zs.length - k ∧ k ≤ zs.length ∧ out.length ≤ k + d.toNat ∧ putI zs n = (if d then out ++ zs.drop k else out ++ putI (zs.drop k) n)) zs.length ⟨0, [], false, [], rfl, rfl, rfl, rfl, rfl, rfl, rfl, Nat.zero_le _, by simp, by simp⟩ ?_
  rintro J hJ m t h' ⟨k, out, d, rest, t0, t1, t5, t6, t7, rfl, rfl, hk, ho, hS⟩
  have hnx : ∀ (t' : Nat → AV) (out' : List Int) (d' : Bool) (rest' : List Row), t' 0 = .list 0 1 (iCells zs) → t' 1 = .val (.int .i64 n) → t' 5 = .own h.length out'.length → t' 6 = .val (.bool d') → t' 7 = .val (.int .i64 (k + 1 : Nat)) → k < zs.length → out'.length ≤ k + 1 + d'.toNat → putI zs n = (if d' then out' ++ zs.drop (k + 1) else out' ++ putI (zs.drop (k + 1)) n) → ∃ m, m < zs.length - k ∧ J m t' (h ++ (⟨2, 1, iCells out'⟩ :: rest')) :=
    fun t' out' d' rest' e0 e1 e5 e6 e7 hlt e8 e9 => ⟨zs.length - (k + 1), by omega, hJ _ _ _ ⟨k + 1, out', d', rest', e0, e1, e5, e6, e7, rfl, rfl, by omega, by omega, e9⟩⟩
  by_cases hlt : k < zs.length
  · have hg := iCells_get zs k hlt
    cases d
    · simp only [Bool.false_eq_true, if_false] at hS
      simp only [Bool.toNat_false, Nat.add_zero] at ho
      rw [putI_at zs k hlt] at hS
      by_cases h1 : n ≤ zs[k]
      · rw [if_pos h1] at hS
        by_cases h2 : n < zs[k]
        · rw [if_pos h2] at hS
          simp (disch := omega) only [t0, t1, t5, t6, t7, hlt, hg, h1, h2, go_sem, Nat.reduceEqDiff, Nat.reduceAdd, Nat.reduceLeDiff, reduceCtorEq, Int.reduceLT, Int.reduceLE, Int.reduceNeg, Int.reduceSub, Int.reduceAdd, Int.reduceToNat, ↓reduceIte]
          refine ⟨by omega, by omega, ?_⟩
          try simp (disch := omega) only [t0, t1, t5, t6, t7, hlt, hg, go_sem, Nat.reduceEqDiff, Nat.reduceAdd, Nat.reduceLeDiff, reduceCtorEq, Int.reduceLT, Int.reduceLE, Int.reduceNeg, Int.reduceSub, Int.reduceAdd, Int.reduceToNat, ↓reduceIte]
          refine ⟨by first | omega | (simp; omega), by first | omega | (simp; omega), ?_⟩
          refine hnx _ (out ++ [n, zs[k]]) true _ (by simp [upd, t0]) (by simp [upd, t1]) (by simp [upd]) (by simp [upd]) (by simp [upd]) hlt (by simp; omega) ?_
          rw [hS, List.drop_eq_getElem_cons hlt]; simp
        · rw [if_neg h2] at hS
          simp (disch := omega) only [t0, t1, t5, t6, t7, hlt, hg, h1, h2, go_sem, Nat.reduceEqDiff, Nat.reduceAdd, Nat.reduceLeDiff, reduceCtorEq, Int.reduceLT, Int.reduceLE, Int.reduceNeg, Int.reduceSub, Int.reduceAdd, Int.reduceToNat, ↓reduceIte]
          refine ⟨by omega, by omega, ?_⟩
          refine hnx _ (out ++ [zs[k]]) true _ (by simp [upd, t0]) (by simp [upd, t1]) (by simp [upd]) (by simp [upd]) (by simp [upd]) hlt (by simp; omega) ?_
          rw [hS, List.drop_eq_getElem_cons hlt]; simp
      · rw [if_neg h1] at hS
        simp (disch := omega) only [t0, t1, t5, t6, t7, hlt, hg, h1, go_sem, Nat.reduceEqDiff, Nat.reduceAdd, Nat.reduceLeDiff, reduceCtorEq, Int.reduceLT, Int.reduceLE, Int.reduceNeg, Int.reduceSub, Int.reduceAdd, Int.reduceToNat, ↓reduceIte]
        refine ⟨by omega, by omega, ?_⟩
        refine hnx _ (out ++ [zs[k]]) false _ (by simp [upd, t0]) (by simp [upd, t1]) (by simp [upd]) (by simp [upd, t6]) (by simp [upd]) hlt (by simp; omega) ?_
        rw [hS]; simp
    · simp only [if_true] at hS
      simp only [Bool.toNat_true] at ho
      simp (disch := omega) only [t0, t1, t5, t6, t7, hlt, hg, go_sem, Nat.reduceEqDiff, Nat.reduceAdd, Nat.reduceLeDiff, reduceCtorEq, Int.reduceLT, Int.reduceLE, Int.reduceNeg, Int.reduceSub, Int.reduceAdd, Int.reduceToNat, ↓reduceIte]
      refine ⟨by omega, by omega, ?_⟩
      refine hnx _ (out ++ [zs[k]]) true _ (by simp [upd, t0]) (by simp [upd, t1]) (by simp [upd]) (by simp [upd, t6]) (by simp [upd]) hlt (by simp; omega) ?_
      rw [hS, List.drop_eq_getElem_cons hlt]; simp
  · have hd : zs.drop k = [] := List.drop_eq_nil_of_le (by omega)
    rw [hd] at hS
    cases d
    · simp only [Bool.false_eq_true, if_false, putI] at hS
      simp only [Bool.toNat_false, Nat.add_zero] at ho
      simp (disch := omega) only [t0, t1, t5, t6, t7, hlt, go_sem, Nat.reduceEqDiff, Nat.reduceAdd, Nat.reduceLeDiff, reduceCtorEq, Int.reduceLT, Int.reduceLE, Int.reduceNeg, Int.reduceSub, Int.reduceAdd, Int.reduceToNat, ↓reduceIte]
      refine ⟨by omega, by omega, ?_⟩
      rw [hS]
      refine ⟨_, rfl, ?_, _, _, rfl⟩
      have := Fresh.ofInts (base := h.length) (l := h.length) (H := h ++ (⟨2, 1, iCells (out ++ [n])⟩ :: (rest ++ [⟨2, 1, [[.val (.int .i64 n)]]⟩]))) (E := 2) (zs := out ++ [n]) (by rw [getA0]; rfl) (Nat.le_refl _)
      simpa using this
    · simp only [if_true, List.append_nil] at hS
      simp (disch := omega) only [t0, t1, t5, t6, t7, hlt, go_sem, Nat.reduceEqDiff, Nat.reduceAdd, Nat.reduceLeDiff, reduceCtorEq, Int.reduceLT, Int.reduceLE, Int.reduceNeg, Int.reduceSub, Int.reduceAdd, Int.reduceToNat, ↓reduceIte]
      rw [hS]
      exact ⟨_, rfl, Fresh.ofInts (E := 2) (by rw [getA0]; rfl) (Nat.le_refl _), _, _, rfl⟩
end Go.Proofs.YtodgohgdnmifaaaGreatDoor
