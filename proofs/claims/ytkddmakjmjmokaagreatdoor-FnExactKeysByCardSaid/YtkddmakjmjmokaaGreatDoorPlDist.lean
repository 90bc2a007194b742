/-
  Texts that are sorted and made single: as many as before just where none stands twice. Nothing of any program.
-/
import Derived.Test.YtkddmakjmjmokaaGreatDoorAwSortS
namespace Go.AW
set_option linter.unusedSimpArgs false
set_option linter.unusedVariables false

/-- Runs of equal ones become one. -/
def compactG {α : Type} [DecidableEq α] : List α → List α
  | [] => []
  | [x] => [x]
  | x :: y :: r => if x = y then compactG (y :: r) else x :: compactG (y :: r)
section
variable {α : Type} [DecidableEq α]
theorem compactG_most : ∀ zs : List α, (compactG zs).length ≤ zs.length
  | [] => Nat.le_refl _
  | [x] => Nat.le_refl _
  | x :: y :: r => by
    have := compactG_most (y :: r)
    simp only [compactG]
    split <;> simp only [List.length_cons] at * <;> omega
theorem compactG_ne : ∀ (x : α) (r : List α), ∃ r', compactG (x :: r) = x :: r'
  | x, [] => ⟨[], rfl⟩
  | x, y :: r => by
    simp only [compactG]
    by_cases h : x = y
    · subst h; rw [if_pos rfl]; exact compactG_ne x r
    · rw [if_neg h]; exact ⟨_, rfl⟩
theorem compactG_at (zs : List α) (a : Nat) (h0 : 0 < a) (h : a < zs.length) : compactG (zs.drop (a - 1)) = if zs[a - 1] = zs[a] then compactG (zs.drop a) else zs[a - 1] :: compactG (zs.drop a) := by
  rw [List.drop_eq_getElem_cons (show a - 1 < zs.length by omega)]
  rw [show a - 1 + 1 = a by omega, List.drop_eq_getElem_cons h]
  rfl
theorem compactG_last (zs : List α) (h : 0 < zs.length) : compactG (zs.drop (zs.length - 1)) = [zs[zs.length - 1]] := by
  rw [List.drop_eq_getElem_cons (by omega), List.drop_eq_nil_of_le (by omega)]; rfl
theorem compactG_nodup : ∀ zs : List α, zs.Nodup → compactG zs = zs
  | [], _ => rfl
  | [x], _ => rfl
  | x :: y :: r, h => by
    obtain ⟨h1, h2⟩ := List.nodup_cons.1 h
    have h3 : x ≠ y := fun e => h1 (by rw [e]; simp)
    rw [compactG, if_neg h3, compactG_nodup (y :: r) h2]
theorem nodup_compactG (le : α → α → Prop) (anti : ∀ a b, le a b → le b a → a = b) : ∀ zs : List α, zs.Pairwise le → (compactG zs).length = zs.length → zs.Nodup
  | [], _, _ => List.nodup_nil
  | [x], _, _ => by simp
  | x :: y :: r, h, hl => by
    obtain ⟨h1, h2⟩ := List.pairwise_cons.1 h
    have hm := compactG_most (y :: r)
    rw [compactG] at hl
    split at hl
    · simp only [List.length_cons] at hl hm; omega
    · rename_i hne
      have hl2 : (compactG (y :: r)).length = (y :: r).length := by simp only [List.length_cons] at hl ⊢; omega
      refine List.nodup_cons.2 ⟨fun hx => ?_, nodup_compactG le anti (y :: r) h2 hl2⟩
      rcases List.mem_cons.1 hx with e | e
      · exact hne e
      · exact hne (anti _ _ (h1 y (by simp)) ((List.pairwise_cons.1 h2).1 x e))
end
theorem leT_total (a b : List UInt8) : (decide (a ≤ b) || decide (b ≤ a)) = true := by
  rw [Bool.or_eq_true, decide_eq_true_eq, decide_eq_true_eq]; exact List.le_total a b
theorem sortT_sorted (zs : List (List UInt8)) : (sortT zs).Pairwise (fun x y => x ≤ y) := by
  have := List.pairwise_mergeSort (le := fun x y : List UInt8 => decide (x ≤ y)) (fun a b c h1 h2 => by
    rw [decide_eq_true_eq] at *; exact List.le_trans h1 h2) leT_total zs
  exact this.imp fun h => by simpa using h
theorem dist_sort (zs : List (List UInt8)) : decide ((compactG (sortT zs)).length = zs.length) = decide zs.Nodup := by
  rw [decide_eq_decide]
  have hp : (sortT zs).Perm zs := List.mergeSort_perm zs _
  constructor
  · intro h
    refine hp.nodup_iff.1 (nodup_compactG (fun x y => x ≤ y) (fun a b h1 h2 => List.le_antisymm h1 h2) _ (sortT_sorted zs) ?_)
    rw [h, sortT_len]
  · intro h
    rw [compactG_nodup _ (hp.nodup_iff.2 h), sortT_len]
end Go.AW
