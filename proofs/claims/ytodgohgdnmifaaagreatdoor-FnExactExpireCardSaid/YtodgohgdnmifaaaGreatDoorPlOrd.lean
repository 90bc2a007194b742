/-
 The order of texts and of lists of texts, as both programs reckon it. Nothing of any program.
-/
import Derived.Test.YtodgohgdnmifaaaGreatDoorPlNum
import GoSem.Op.String
namespace Go.AW
set_option linter.unusedSimpArgs false
theorem eQ_ : ∀ a : List UInt8, Op.bytesLess a a = false
 | [] => rfl
 | x :: a => by simp [Op.bytesLess, eQ_ a, UInt8.lt_irrefl]
theorem gI_ : ∀ a b : List UInt8, Op.bytesLess a b = false → Op.bytesLess b a = false → a = b
 | [], [], _, _ => rfl
 | [], _ :: _, h, _ => by simp [Op.bytesLess] at h
 | _ :: _, [], _, h => by simp [Op.bytesLess] at h
 | x :: a, y :: b, h1, h2 => by
  simp only [Op.bytesLess, Bool.or_eq_false_iff, Bool.and_eq_false_iff, decide_eq_false_iff_not, beq_eq_false_iff_ne] at h1 h2
  have e : x = y := UInt8.le_antisymm (UInt8.not_lt.1 h2.1) (UInt8.not_lt.1 h1.1)
  subst e
  rw [gI_ a b (by simpa using h1.2) (by simpa using h2.2)]
theorem lD_ : ∀ a b : List UInt8, Op.bytesLess a b = true → Op.bytesLess b a = false
 | [], [], h => by simp [Op.bytesLess] at h
 | [], _ :: _, _ => rfl
 | _ :: _, [], h => by simp [Op.bytesLess] at h
 | x :: a, y :: b, h => by
  simp only [Op.bytesLess, Bool.or_eq_true, Bool.and_eq_true, decide_eq_true_eq, beq_iff_eq] at h
  simp only [Op.bytesLess, Bool.or_eq_false_iff, Bool.and_eq_false_iff, decide_eq_false_iff_not, beq_eq_false_iff_ne]
  rcases h with h | ⟨h, k⟩
  ·exact ⟨fun q => UInt8.lt_irrefl x (UInt8.lt_trans h q), .inl fun e => by subst e; exact UInt8.lt_irrefl _ h⟩
  ·subst h
   exact ⟨UInt8.lt_irrefl _, .inr (lD_ a b k)⟩
def hF_ (a b : List UInt8) : Int := if Op.bytesLess a b then -1 else if Op.bytesLess b a then 1 else 0
def e3_ (a b : Int) : Int := if a < b then -1 else if b < a then 1 else 0
theorem gj_ (a b : List UInt8) : hF_ a b = 0 ↔ a = b := by
 unfold hF_
 constructor
 ·intro h
  split at h
  ·simp at h
  ·split at h
   ·simp at h
   ·exact gI_ a b (by simpa using ‹¬ Op.bytesLess a b = true›) (by simpa using ‹¬ Op.bytesLess b a = true›)
 ·rintro rfl; simp [eQ_]
theorem og_ (a b : List UInt8) : hF_ a b < 0 ↔ Op.bytesLess a b = true := by
 unfold hF_
 split
 ·simp_all
 ·split <;> simp_all
theorem gg_ (a b : Int) : e3_ a b = 0 ↔ a = b := by
 unfold e3_
 split
 ·omega
 ·split <;> omega
theorem nL_ (a b : Int) : e3_ a b < 0 ↔ a < b := by
 unfold e3_
 split
 ·omega
 ·split <;> omega
def c5_ (a b : List UInt8) : Int := if b9_ a && b9_ b then e3_ (bZ_ a) (bZ_ b) else if b9_ a then -1 else if b9_ b then 1 else hF_ a b
def before (a b : List UInt8) : Bool := if b9_ a && b9_ b then decide (bZ_ a < bZ_ b) else if b9_ a != b9_ b then b9_ a else Op.bytesLess a b
theorem eo_ (a b : List UInt8) : c5_ a b = 0 ↔ a = b := by
 unfold c5_
 cases ha : b9_ a <;> cases hb : b9_ b <;> simp only [Bool.and_true, Bool.and_false, Bool.false_eq_true, if_true, if_false]
 ·exact gj_ a b
 ·constructor
  ·intro h; simp at h
  ·rintro rfl; rw [ha] at hb; simp at hb
 ·constructor
  ·intro h; simp at h
  ·rintro rfl; rw [ha] at hb; simp at hb
 ·rw [gg_]
  exact ⟨rt_ ha hb, fun h => by rw [h]⟩
theorem kq_ (a b : List UInt8) : c5_ a b < 0 ↔ before a b = true := by
 unfold c5_ before
 cases ha : b9_ a <;> cases hb : b9_ b <;> simp only [Bool.and_true, Bool.and_false, Bool.false_eq_true, if_true, if_false, bne_self_eq_false]
 ·exact og_ a b
 ·simp
 ·simp
 ·rw [nL_]; simp
def e7_ : List (List UInt8) → List (List UInt8) → Int
 | [], [] => 0
 | [], _ :: _ => -1
 | _ :: _, [] => 1
 | x :: xs, y :: ys => if c5_ x y = 0 then e7_ xs ys else c5_ x y
def ch_ : List (List UInt8) → List (List UInt8) → Bool
 | [], [] => false
 | [], _ :: _ => true
 | _ :: _, [] => false
 | x :: xs, y :: ys => if x = y then ch_ xs ys else before x y
theorem ny_ : ∀ xs ys, e7_ xs ys < 0 ↔ ch_ xs ys = true
 | [], [] => by simp [e7_, ch_]
 | [], _ :: _ => by simp [e7_, ch_]
 | _ :: _, [] => by simp [e7_, ch_]
 | x :: xs, y :: ys => by
  simp only [e7_, ch_]
  by_cases h : x = y
  ·rw [if_pos ((eo_ x y).2 h), if_pos h]; exact ny_ xs ys
  ·rw [if_neg (fun q => h ((eo_ x y).1 q)), if_neg h]; exact kq_ x y
theorem mP_ : ∀ xs ys, e7_ xs ys = 0 ↔ xs = ys
 | [], [] => by simp [e7_]
 | [], _ :: _ => by simp [e7_]
 | _ :: _, [] => by simp [e7_]
 | x :: xs, y :: ys => by
  simp only [e7_]
  by_cases h : x = y
  ·rw [if_pos ((eo_ x y).2 h), mP_ xs ys]; simp [h]
  ·have := fun q => h ((eo_ x y).1 q)
   rw [if_neg this]; simp only [List.cons.injEq, h, false_and, iff_false]; exact this
def lX_ (n : List UInt8) (s : List (List UInt8)) (o : List UInt8) (os : List (List UInt8)) : Int := if hF_ n o = 0 then e7_ s os else hF_ n o
def c0_ (n : List UInt8) (s : List (List UInt8)) (o : List UInt8) (os : List (List UInt8)) : Bool := if n = o then ch_ s os else Op.bytesLess n o
theorem sO_ (n : List UInt8) (s : List (List UInt8)) (o : List UInt8) (os : List (List UInt8)) : lX_ n s o os < 0 ↔ c0_ n s o os = true := by
 unfold lX_ c0_
 by_cases h : n = o
 ·rw [if_pos ((gj_ n o).2 h), if_pos h]; exact ny_ s os
 ·rw [if_neg (fun q => h ((gj_ n o).1 q)), if_neg h]; exact og_ n o
theorem qG_ (n : List UInt8) (s : List (List UInt8)) (o : List UInt8) (os : List (List UInt8)) : lX_ n s o os = 0 ↔ n = o ∧ s = os := by
 unfold lX_
 by_cases h : n = o
 ·rw [if_pos ((gj_ n o).2 h), mP_]; simp [h]
 ·have := fun q => h ((gj_ n o).1 q)
  rw [if_neg this]; simp only [h, false_and, iff_false]; exact this
end Go.AW
