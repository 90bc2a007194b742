/-
  The order of texts, of lists of texts and of places is a strict total order. Nothing of any program.
-/
import Derived.Test.YtkddmakjmjmokaaGreatDoorPlOrd
namespace Go.AW
set_option linter.unusedSimpArgs false

theorem less_trans : ∀ a b c : List UInt8, Op.bytesLess a b = true → Op.bytesLess b c = true → Op.bytesLess a c = true
  | [], [], _, h, _ => by simp [Op.bytesLess] at h
  | _ :: _, [], _, h, _ => by simp [Op.bytesLess] at h
  | [], _ :: _, [], _, h => by simp [Op.bytesLess] at h
  | [], _ :: _, _ :: _, _, _ => rfl
  | _ :: _, _ :: _, [], _, h => by simp [Op.bytesLess] at h
  | x :: a, y :: b, z :: c, h1, h2 => by
    simp only [Op.bytesLess, Bool.or_eq_true, Bool.and_eq_true, decide_eq_true_eq, beq_iff_eq] at h1 h2 ⊢
    rcases h1 with h1 | ⟨h1, k1⟩
    · rcases h2 with h2 | ⟨h2, k2⟩
      · exact .inl (UInt8.lt_trans h1 h2)
      · subst h2; exact .inl h1
    · subst h1
      rcases h2 with h2 | ⟨h2, k2⟩
      · exact .inl h2
      · exact .inr ⟨h2, less_trans a b c k1 k2⟩
theorem before_trans (a b c : List UInt8) (h1 : before a b = true) (h2 : before b c = true) : before a c = true := by
  unfold before at h1 h2 ⊢
  cases ha : canon a <;> cases hb : canon b <;> cases hc : canon c <;> simp only [ha, hb, hc, Bool.and_true, Bool.and_false, Bool.false_eq_true, if_true, if_false, bne_self_eq_false, Bool.and_self] at h1 h2 ⊢ <;> try (simp at h1 h2 ⊢; done)
  · exact less_trans a b c h1 h2
  · simp at h1 h2 ⊢; omega
theorem before_irrefl (a : List UInt8) : before a a = false := by
  unfold before
  cases ha : canon a <;> simp [less_irrefl]
theorem before_total (a b : List UInt8) (h : a ≠ b) : before a b = true ∨ before b a = true := by
  rcases Int.lt_trichotomy (collate a b) 0 with q | q | q
  · exact .inl ((collate_neg a b).1 q)
  · exact absurd ((collate_zero a b).1 q) h
  · right
    unfold before
    unfold collate at q
    cases ha : canon a <;> cases hb : canon b <;> simp only [ha, hb, Bool.and_true, Bool.and_false, Bool.false_eq_true, if_true, if_false, bne_self_eq_false, Bool.and_self] at q ⊢
    · unfold cmpS at q
      split at q
      · simp at q
      · split at q
        · assumption
        · simp at q
    · simp
    · simp at q
    · unfold cmpI at q
      split at q
      · omega
      · split at q
        · simpa using ‹_›
        · simp at q
theorem lessL_trans : ∀ a b c : List (List UInt8), lessL a b = true → lessL b c = true → lessL a c = true
  | [], [], _, h, _ => by simp [lessL] at h
  | _ :: _, [], _, h, _ => by simp [lessL] at h
  | [], _ :: _, [], _, h => by simp [lessL] at h
  | [], _ :: _, _ :: _, _, _ => rfl
  | _ :: _, _ :: _, [], _, h => by simp [lessL] at h
  | x :: a, y :: b, z :: c, h1, h2 => by
    simp only [lessL] at h1 h2 ⊢
    by_cases e1 : x = y
    · subst e1
      rw [if_pos rfl] at h1
      by_cases e2 : x = z
      · subst e2; rw [if_pos rfl] at h2 ⊢; exact lessL_trans a b c h1 h2
      · rw [if_neg e2] at h2 ⊢; exact h2
    · rw [if_neg e1] at h1
      by_cases e2 : y = z
      · subst e2; rw [if_neg e1]; exact h1
      · rw [if_neg e2] at h2
        have ht := before_trans x y z h1 h2
        have hne : ¬ x = z := by
          intro e; subst e
          rw [before_irrefl] at ht; simp at ht
        rw [if_neg hne]; exact ht
theorem lessL_irrefl : ∀ a : List (List UInt8), lessL a a = false
  | [] => rfl
  | x :: a => by simp only [lessL, if_true]; exact lessL_irrefl a
theorem lessL_total : ∀ a b : List (List UInt8), a ≠ b → lessL a b = true ∨ lessL b a = true
  | [], [], h => absurd rfl h
  | [], _ :: _, _ => .inl rfl
  | _ :: _, [], _ => .inr rfl
  | x :: a, y :: b, h => by
    simp only [lessL]
    by_cases e : x = y
    · subst e
      rw [if_pos rfl, if_pos rfl]
      exact lessL_total a b (fun q => h (by rw [q]))
    · rw [if_neg e, if_neg (fun q => e q.symm)]
      exact before_total x y e
theorem lessP_trans {n : List UInt8} {s : List (List UInt8)} {o : List UInt8} {os : List (List UInt8)} {p : List UInt8} {ps : List (List UInt8)} (h1 : lessP n s o os = true) (h2 : lessP o os p ps = true) : lessP n s p ps = true := by
  unfold lessP at h1 h2 ⊢
  by_cases e1 : n = o
  · subst e1
    rw [if_pos rfl] at h1
    by_cases e2 : n = p
    · subst e2; rw [if_pos rfl] at h2 ⊢; exact lessL_trans _ _ _ h1 h2
    · rw [if_neg e2] at h2 ⊢; exact h2
  · rw [if_neg e1] at h1
    by_cases e2 : o = p
    · subst e2; rw [if_neg e1]; exact h1
    · rw [if_neg e2] at h2
      have ht := less_trans n o p h1 h2
      have hne : ¬ n = p := by
        intro e; subst e
        rw [less_irrefl] at ht; simp at ht
      rw [if_neg hne]; exact ht
theorem lessP_irrefl (n : List UInt8) (s : List (List UInt8)) : lessP n s n s = false := by
  unfold lessP; rw [if_pos rfl]; exact lessL_irrefl s
theorem lessP_total {n : List UInt8} {s : List (List UInt8)} {o : List UInt8} {os : List (List UInt8)} (h : ¬ (n = o ∧ s = os)) : lessP n s o os = true ∨ lessP o os n s = true := by
  unfold lessP
  by_cases e : n = o
  · subst e
    rw [if_pos rfl, if_pos rfl]
    exact lessL_total s os (fun q => h ⟨rfl, q⟩)
  · rw [if_neg e, if_neg (fun q => e q.symm)]
    cases h1 : Op.bytesLess n o
    · cases h2 : Op.bytesLess o n
      · exact absurd (less_total n o h1 h2) e
      · exact .inr rfl
    · exact .inl rfl
end Go.AW
