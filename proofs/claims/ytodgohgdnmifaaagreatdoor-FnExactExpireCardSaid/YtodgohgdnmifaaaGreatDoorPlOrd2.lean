/-
 The order of texts, of lists of texts and of places is a strict total order. Nothing of any program.
-/
import Derived.Test.YtodgohgdnmifaaaGreatDoorPlOrd
namespace Go.AW
set_option linter.unusedSimpArgs false
theorem ir_ : ∀ a b c : List UInt8, Op.bytesLess a b = true → Op.bytesLess b c = true → Op.bytesLess a c = true
 | [], [], _, h, _ => by simp [Op.bytesLess] at h
 | _ :: _, [], _, h, _ => by simp [Op.bytesLess] at h
 | [], _ :: _, [], _, h => by simp [Op.bytesLess] at h
 | [], _ :: _, _ :: _, _, _ => rfl
 | _ :: _, _ :: _, [], _, h => by simp [Op.bytesLess] at h
 | x :: a, y :: b, z :: c, h1, h2 => by
  simp only [Op.bytesLess, Bool.or_eq_true, Bool.and_eq_true, decide_eq_true_eq, beq_iff_eq] at h1 h2 ⊢
  rcases h1 with h1 | ⟨h1, k1⟩
  ·rcases h2 with h2 | ⟨h2, k2⟩
   ·exact .inl (UInt8.lt_trans h1 h2)
   ·subst h2; exact .inl h1
  ·subst h1
   rcases h2 with h2 | ⟨h2, k2⟩
   ·exact .inl h2
   ·exact .inr ⟨h2, ir_ a b c k1 k2⟩
theorem nx_ (a b c : List UInt8) (h1 : before a b = true) (h2 : before b c = true) : before a c = true := by
 unfold before at h1 h2 ⊢
 cases ha : b9_ a <;> cases hb : b9_ b <;> cases hc : b9_ c <;> simp only [ha, hb, hc, Bool.and_true, Bool.and_false, Bool.false_eq_true, if_true, if_false, bne_self_eq_false, Bool.and_self] at h1 h2 ⊢ <;> try (simp at h1 h2 ⊢; done)
 ·exact ir_ a b c h1 h2
 ·simp at h1 h2 ⊢; omega
theorem m2_ (a : List UInt8) : before a a = false := by
 unfold before
 cases ha : b9_ a <;> simp [eQ_]
theorem np_ (a b : List UInt8) (h : a ≠ b) : before a b = true ∨ before b a = true := by
 rcases Int.lt_trichotomy (c5_ a b) 0 with q | q | q
 ·exact .inl ((kq_ a b).1 q)
 ·exact absurd ((eo_ a b).1 q) h
 ·right
  unfold before
  unfold c5_ at q
  cases ha : b9_ a <;> cases hb : b9_ b <;> simp only [ha, hb, Bool.and_true, Bool.and_false, Bool.false_eq_true, if_true, if_false, bne_self_eq_false, Bool.and_self] at q ⊢
  ·unfold hF_ at q
   split at q
   ·simp at q
   ·split at q
    ·assumption
    ·simp at q
  ·simp
  ·simp at q
  ·unfold e3_ at q
   split at q
   ·omega
   ·split at q
    ·simpa using ‹_›
    ·simp at q
theorem j9_ : ∀ a b c : List (List UInt8), ch_ a b = true → ch_ b c = true → ch_ a c = true
 | [], [], _, h, _ => by simp [ch_] at h
 | _ :: _, [], _, h, _ => by simp [ch_] at h
 | [], _ :: _, [], _, h => by simp [ch_] at h
 | [], _ :: _, _ :: _, _, _ => rfl
 | _ :: _, _ :: _, [], _, h => by simp [ch_] at h
 | x :: a, y :: b, z :: c, h1, h2 => by
  simp only [ch_] at h1 h2 ⊢
  by_cases e1 : x = y
  ·subst e1
   rw [if_pos rfl] at h1
   by_cases e2 : x = z
   ·subst e2; rw [if_pos rfl] at h2 ⊢; exact j9_ a b c h1 h2
   ·rw [if_neg e2] at h2 ⊢; exact h2
  ·rw [if_neg e1] at h1
   by_cases e2 : y = z
   ·subst e2; rw [if_neg e1]; exact h1
   ·rw [if_neg e2] at h2
    have ht := nx_ x y z h1 h2
    have hne : ¬ x = z := by
     intro e; subst e
     rw [m2_] at ht; simp at ht
    rw [if_neg hne]; exact ht
theorem ko_ : ∀ a b : List (List UInt8), a ≠ b → ch_ a b = true ∨ ch_ b a = true
 | [], [], h => absurd rfl h
 | [], _ :: _, _ => .inl rfl
 | _ :: _, [], _ => .inr rfl
 | x :: a, y :: b, h => by
  simp only [ch_]
  by_cases e : x = y
  ·subst e
   rw [if_pos rfl, if_pos rfl]
   exact ko_ a b (fun q => h (by rw [q]))
  ·rw [if_neg e, if_neg (fun q => e q.symm)]
   exact np_ x y e
theorem oN_ {n : List UInt8} {s : List (List UInt8)} {o : List UInt8} {os : List (List UInt8)} {p : List UInt8} {ps : List (List UInt8)} (h1 : c0_ n s o os = true) (h2 : c0_ o os p ps = true) : c0_ n s p ps = true := by
 unfold c0_ at h1 h2 ⊢
 by_cases e1 : n = o
 ·subst e1
  rw [if_pos rfl] at h1
  by_cases e2 : n = p
  ·subst e2; rw [if_pos rfl] at h2 ⊢; exact j9_ _ _ _ h1 h2
  ·rw [if_neg e2] at h2 ⊢; exact h2
 ·rw [if_neg e1] at h1
  by_cases e2 : o = p
  ·subst e2; rw [if_neg e1]; exact h1
  ·rw [if_neg e2] at h2
   have ht := ir_ n o p h1 h2
   have hne : ¬ n = p := by
    intro e; subst e
    rw [eQ_] at ht; simp at ht
   rw [if_neg hne]; exact ht
theorem oY_ {n : List UInt8} {s : List (List UInt8)} {o : List UInt8} {os : List (List UInt8)} (h : ¬ (n = o ∧ s = os)) : c0_ n s o os = true ∨ c0_ o os n s = true := by
 unfold c0_
 by_cases e : n = o
 ·subst e
  rw [if_pos rfl, if_pos rfl]
  exact ko_ s os (fun q => h ⟨rfl, q⟩)
 ·rw [if_neg e, if_neg (fun q => e q.symm)]
  cases h1 : Op.bytesLess n o
  ·cases h2 : Op.bytesLess o n
   ·exact absurd (gI_ n o h1 h2) e
   ·exact .inr rfl
  ·exact .inl rfl
end Go.AW
