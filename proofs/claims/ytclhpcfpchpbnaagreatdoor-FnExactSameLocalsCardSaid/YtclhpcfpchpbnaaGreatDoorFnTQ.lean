/-
 Contracts of functions of this program, over abstract values. Conditions: as each theorem says.
-/
import Derived.Test.YtclhpcfpchpbnaaGreatDoorFnTP
namespace Go.Proofs.YtclhpcfpchpbnaaGreatDoor
open Go.AW
set_option linter.unusedVariables false
set_option linter.unusedSimpArgs false
set_option maxRecDepth 4000

theorem bin_shr1 (q : Bool) (n : Nat) : binEval .shr q (.val (.int .u64 (n : Int))) (.val (.int .u64 1)) = some (.val (.int .u64 ((n / 2 : Nat) : Int))) := by
 have e : binEval .shr q (.val (.int .u64 (n : Int))) (.val (.int .u64 1)) = some (.val (.int .u64 ((n : Int).fdiv (2 ^ 1)))) := rfl
 rw [e]
 congr 3
 rw [Int.fdiv_eq_ediv_of_nonneg _ (by decide)]
 omega
theorem wrap_u64_in {n : Int} (h1 : 0 ≤ n) (h2 : n ≤ 18446744073709551615) : IntKind.u64.wrap n = n := by
 rw [IntKind.wrap_u64]; omega
theorem takeWhile_part {α : Type} (p : α → Bool) : ∀ (l : List α) (hmono : ∀ (i j : Nat) (hi : i < l.length) (hj : j < l.length), i ≤ j → p l[j] = true → p l[i] = true) (i : Nat) (h : i < l.length), p l[i] = true ↔ i < (l.takeWhile p).length
 | [], _, i, h => by simp at h
 | a :: l, hm, i, h => by
  by_cases q : p a = true
  ·rw [List.takeWhile_cons_of_pos q]
   cases i with
   | zero => simp [q]
   | succ i =>
    simp only [List.getElem_cons_succ, List.length_cons, Nat.add_lt_add_iff_right]
    exact takeWhile_part p l (fun a b ha hb hab hp => hm (a + 1) (b + 1) (by simpa using ha) (by simpa using hb) (by omega) hp) i (by simpa using h)
  ·rw [List.takeWhile_cons_of_neg q]
   simp only [List.length_nil, Nat.not_lt_zero, iff_false]
   intro hp
   exact q (hm 0 i (by simp) h (Nat.zero_le _) hp)
end Go.Proofs.YtclhpcfpchpbnaaGreatDoor
