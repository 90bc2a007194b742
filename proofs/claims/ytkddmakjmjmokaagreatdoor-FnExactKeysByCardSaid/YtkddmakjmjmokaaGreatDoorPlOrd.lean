/-
  The order of texts and of lists of texts, as both programs reckon it. Nothing of any program.
-/
import Derived.Test.YtkddmakjmjmokaaGreatDoorPlNum
import GoSem.Op.String
namespace Go.AW
set_option linter.unusedSimpArgs false

theorem less_irrefl : ∀ a : List UInt8, Op.bytesLess a a = false
  | [] => rfl
  | x :: a => by simp [Op.bytesLess, less_irrefl a, UInt8.lt_irrefl]
theorem less_total : ∀ a b : List UInt8, Op.bytesLess a b = false → Op.bytesLess b a = false → a = b
  | [], [], _, _ => rfl
  | [], _ :: _, h, _ => by simp [Op.bytesLess] at h
  | _ :: _, [], _, h => by simp [Op.bytesLess] at h
  | x :: a, y :: b, h1, h2 => by
    simp only [Op.bytesLess, Bool.or_eq_false_iff, Bool.and_eq_false_iff, decide_eq_false_iff_not, beq_eq_false_iff_ne] at h1 h2
    have e : x = y := UInt8.le_antisymm (UInt8.not_lt.1 h2.1) (UInt8.not_lt.1 h1.1)
    subst e
    rw [less_total a b (by simpa using h1.2) (by simpa using h2.2)]
theorem less_asymm : ∀ a b : List UInt8, Op.bytesLess a b = true → Op.bytesLess b a = false
  | [], [], h => by simp [Op.bytesLess] at h
  | [], _ :: _, _ => rfl
  | _ :: _, [], h => by simp [Op.bytesLess] at h
  | x :: a, y :: b, h => by
    simp only [Op.bytesLess, Bool.or_eq_true, Bool.and_eq_true, decide_eq_true_eq, beq_iff_eq] at h
    simp only [Op.bytesLess, Bool.or_eq_false_iff, Bool.and_eq_false_iff, decide_eq_false_iff_not, beq_eq_false_iff_ne]
    rcases h with h | ⟨h, k⟩
    · exact ⟨fun q => UInt8.lt_irrefl x (UInt8.lt_trans h q), .inl fun e => by subst e; exact UInt8.lt_irrefl _ h⟩
    · subst h
      exact ⟨UInt8.lt_irrefl _, .inr (less_asymm a b k)⟩

/-- cmp.Compare of texts. -/
def cmpS (a b : List UInt8) : Int := if Op.bytesLess a b then -1 else if Op.bytesLess b a then 1 else 0
/-- cmp.Compare of numbers. -/
def cmpI (a b : Int) : Int := if a < b then -1 else if b < a then 1 else 0
theorem cmpS_zero (a b : List UInt8) : cmpS a b = 0 ↔ a = b := by
  unfold cmpS
  constructor
  · intro h
    split at h
    · simp at h
    · split at h
      · simp at h
      · exact less_total a b (by simpa using ‹¬ Op.bytesLess a b = true›) (by simpa using ‹¬ Op.bytesLess b a = true›)
  · rintro rfl; simp [less_irrefl]
theorem cmpS_neg (a b : List UInt8) : cmpS a b < 0 ↔ Op.bytesLess a b = true := by
  unfold cmpS
  split
  · simp_all
  · split <;> simp_all
theorem cmpI_zero (a b : Int) : cmpI a b = 0 ↔ a = b := by
  unfold cmpI
  split
  · omega
  · split <;> omega
theorem cmpI_neg (a b : Int) : cmpI a b < 0 ↔ a < b := by
  unfold cmpI
  split
  · omega
  · split <;> omega

def collate (a b : List UInt8) : Int := if canon a && canon b then cmpI (numOf a) (numOf b) else if canon a then -1 else if canon b then 1 else cmpS a b
def before (a b : List UInt8) : Bool := if canon a && canon b then decide (numOf a < numOf b) else if canon a != canon b then canon a else Op.bytesLess a b
theorem collate_zero (a b : List UInt8) : collate a b = 0 ↔ a = b := by
  unfold collate
  cases ha : canon a <;> cases hb : canon b <;> simp only [Bool.and_true, Bool.and_false, Bool.false_eq_true, if_true, if_false]
  · exact cmpS_zero a b
  · constructor
    · intro h; simp at h
    · rintro rfl; rw [ha] at hb; simp at hb
  · constructor
    · intro h; simp at h
    · rintro rfl; rw [ha] at hb; simp at hb
  · rw [cmpI_zero]
    exact ⟨canon_inj ha hb, fun h => by rw [h]⟩
theorem collate_neg (a b : List UInt8) : collate a b < 0 ↔ before a b = true := by
  unfold collate before
  cases ha : canon a <;> cases hb : canon b <;> simp only [Bool.and_true, Bool.and_false, Bool.false_eq_true, if_true, if_false, bne_self_eq_false]
  · exact cmpS_neg a b
  · simp
  · simp
  · rw [cmpI_neg]; simp

def cmpL : List (List UInt8) → List (List UInt8) → Int
  | [], [] => 0
  | [], _ :: _ => -1
  | _ :: _, [] => 1
  | x :: xs, y :: ys => if collate x y = 0 then cmpL xs ys else collate x y
def lessL : List (List UInt8) → List (List UInt8) → Bool
  | [], [] => false
  | [], _ :: _ => true
  | _ :: _, [] => false
  | x :: xs, y :: ys => if x = y then lessL xs ys else before x y
theorem cmpL_neg : ∀ xs ys, cmpL xs ys < 0 ↔ lessL xs ys = true
  | [], [] => by simp [cmpL, lessL]
  | [], _ :: _ => by simp [cmpL, lessL]
  | _ :: _, [] => by simp [cmpL, lessL]
  | x :: xs, y :: ys => by
    simp only [cmpL, lessL]
    by_cases h : x = y
    · rw [if_pos ((collate_zero x y).2 h), if_pos h]; exact cmpL_neg xs ys
    · rw [if_neg (fun q => h ((collate_zero x y).1 q)), if_neg h]; exact collate_neg x y
theorem cmpL_zero : ∀ xs ys, cmpL xs ys = 0 ↔ xs = ys
  | [], [] => by simp [cmpL]
  | [], _ :: _ => by simp [cmpL]
  | _ :: _, [] => by simp [cmpL]
  | x :: xs, y :: ys => by
    simp only [cmpL]
    by_cases h : x = y
    · rw [if_pos ((collate_zero x y).2 h), cmpL_zero xs ys]; simp [h]
    · have := fun q => h ((collate_zero x y).1 q)
      rw [if_neg this]; simp only [List.cons.injEq, h, false_and, iff_false]; exact this
/-- A place: a name and subscripts. -/
def cmpP (n : List UInt8) (s : List (List UInt8)) (o : List UInt8) (os : List (List UInt8)) : Int := if cmpS n o = 0 then cmpL s os else cmpS n o
def lessP (n : List UInt8) (s : List (List UInt8)) (o : List UInt8) (os : List (List UInt8)) : Bool := if n = o then lessL s os else Op.bytesLess n o
theorem cmpP_neg (n : List UInt8) (s : List (List UInt8)) (o : List UInt8) (os : List (List UInt8)) : cmpP n s o os < 0 ↔ lessP n s o os = true := by
  unfold cmpP lessP
  by_cases h : n = o
  · rw [if_pos ((cmpS_zero n o).2 h), if_pos h]; exact cmpL_neg s os
  · rw [if_neg (fun q => h ((cmpS_zero n o).1 q)), if_neg h]; exact cmpS_neg n o
theorem cmpP_zero (n : List UInt8) (s : List (List UInt8)) (o : List UInt8) (os : List (List UInt8)) : cmpP n s o os = 0 ↔ n = o ∧ s = os := by
  unfold cmpP
  by_cases h : n = o
  · rw [if_pos ((cmpS_zero n o).2 h), cmpL_zero]; simp [h]
  · have := fun q => h ((cmpS_zero n o).1 q)
    rw [if_neg this]; simp only [h, false_and, iff_false]; exact this
end Go.AW
