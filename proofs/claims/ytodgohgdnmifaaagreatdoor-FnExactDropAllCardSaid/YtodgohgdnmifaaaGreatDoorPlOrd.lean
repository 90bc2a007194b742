/-
 The order of texts and of lists of texts, as both programs reckon it. Nothing of any program.
-/
import Derived.Test.YtodgohgdnmifaaaGreatDoorPlNum
import GoSem.Op.String
namespace Go.AW
set_option linter.unusedSimpArgs false
theorem eO_ : ∀ a : List UInt8, Op.bytesLess a a = false
 | [] => rfl
 | x :: a => by simp [Op.bytesLess, eO_ a, UInt8.lt_irrefl]
theorem gE_ : ∀ a b : List UInt8, Op.bytesLess a b = false → Op.bytesLess b a = false → a = b
 | [], [], _, _ => rfl
 | [], _ :: _, h, _ => by simp [Op.bytesLess] at h
 | _ :: _, [], _, h => by simp [Op.bytesLess] at h
 | x :: a, y :: b, h1, h2 => by
  simp only [Op.bytesLess, Bool.or_eq_false_iff, Bool.and_eq_false_iff, decide_eq_false_iff_not, beq_eq_false_iff_ne] at h1 h2
  have e : x = y := UInt8.le_antisymm (UInt8.not_lt.1 h2.1) (UInt8.not_lt.1 h1.1)
  subst e
  rw [gE_ a b (by simpa using h1.2) (by simpa using h2.2)]
theorem ld_ : ∀ a b : List UInt8, Op.bytesLess a b = true → Op.bytesLess b a = false
 | [], [], h => by simp [Op.bytesLess] at h
 | [], _ :: _, _ => rfl
 | _ :: _, [], h => by simp [Op.bytesLess] at h
 | x :: a, y :: b, h => by
  simp only [Op.bytesLess, Bool.or_eq_true, Bool.and_eq_true, decide_eq_true_eq, beq_iff_eq] at h
  simp only [Op.bytesLess, Bool.or_eq_false_iff, Bool.and_eq_false_iff, decide_eq_false_iff_not, beq_eq_false_iff_ne]
  rcases h with h | ⟨h, k⟩
  ·exact ⟨fun q => UInt8.lt_irrefl x (UInt8.lt_trans h q), .inl fun e => by subst e; exact UInt8.lt_irrefl _ h⟩
  ·subst h
   exact ⟨UInt8.lt_irrefl _, .inr (ld_ a b k)⟩
def hW_ (a b : List UInt8) : Int := if Op.bytesLess a b then -1 else if Op.bytesLess b a then 1 else 0
def e6_ (a b : Int) : Int := if a < b then -1 else if b < a then 1 else 0
theorem gl_ (a b : List UInt8) : hW_ a b = 0 ↔ a = b := by
 unfold hW_
 constructor
 ·intro h
  split at h
  ·simp at h
  ·split at h
   ·simp at h
   ·exact gE_ a b (by simpa using ‹¬ Op.bytesLess a b = true›) (by simpa using ‹¬ Op.bytesLess b a = true›)
 ·rintro rfl; simp [eO_]
theorem no_ (a b : List UInt8) : hW_ a b < 0 ↔ Op.bytesLess a b = true := by
 unfold hW_
 split
 ·simp_all
 ·split <;> simp_all
theorem gj_ (a b : Int) : e6_ a b = 0 ↔ a = b := by
 unfold e6_
 split
 ·omega
 ·split <;> omega
theorem og_ (a b : Int) : e6_ a b < 0 ↔ a < b := by
 unfold e6_
 split
 ·omega
 ·split <;> omega
def c9_ (a b : List UInt8) : Int := if b7_ a && b7_ b then e6_ (b0_ a) (b0_ b) else if b7_ a then -1 else if b7_ b then 1 else hW_ a b
def before (a b : List UInt8) : Bool := if b7_ a && b7_ b then decide (b0_ a < b0_ b) else if b7_ a != b7_ b then b7_ a else Op.bytesLess a b
theorem el_ (a b : List UInt8) : c9_ a b = 0 ↔ a = b := by
 unfold c9_
 cases ha : b7_ a <;> cases hb : b7_ b <;> simp only [Bool.and_true, Bool.and_false, Bool.false_eq_true, if_true, if_false]
 ·exact gl_ a b
 ·constructor
  ·intro h; simp at h
  ·rintro rfl; rw [ha] at hb; simp at hb
 ·constructor
  ·intro h; simp at h
  ·rintro rfl; rw [ha] at hb; simp at hb
 ·rw [gj_]
  exact ⟨rm_ ha hb, fun h => by rw [h]⟩
theorem j6_ (a b : List UInt8) : c9_ a b < 0 ↔ before a b = true := by
 unfold c9_ before
 cases ha : b7_ a <;> cases hb : b7_ b <;> simp only [Bool.and_true, Bool.and_false, Bool.false_eq_true, if_true, if_false, bne_self_eq_false]
 ·exact no_ a b
 ·simp
 ·simp
 ·rw [og_]; simp
def e7_ : List (List UInt8) → List (List UInt8) → Int
 | [], [] => 0
 | [], _ :: _ => -1
 | _ :: _, [] => 1
 | x :: xs, y :: ys => if c9_ x y = 0 then e7_ xs ys else c9_ x y
def ce_ : List (List UInt8) → List (List UInt8) → Bool
 | [], [] => false
 | [], _ :: _ => true
 | _ :: _, [] => false
 | x :: xs, y :: ys => if x = y then ce_ xs ys else before x y
theorem n9_ : ∀ xs ys, e7_ xs ys < 0 ↔ ce_ xs ys = true
 | [], [] => by simp [e7_, ce_]
 | [], _ :: _ => by simp [e7_, ce_]
 | _ :: _, [] => by simp [e7_, ce_]
 | x :: xs, y :: ys => by
  simp only [e7_, ce_]
  by_cases h : x = y
  ·rw [if_pos ((el_ x y).2 h), if_pos h]; exact n9_ xs ys
  ·rw [if_neg (fun q => h ((el_ x y).1 q)), if_neg h]; exact j6_ x y
theorem mr_ : ∀ xs ys, e7_ xs ys = 0 ↔ xs = ys
 | [], [] => by simp [e7_]
 | [], _ :: _ => by simp [e7_]
 | _ :: _, [] => by simp [e7_]
 | x :: xs, y :: ys => by
  simp only [e7_]
  by_cases h : x = y
  ·rw [if_pos ((el_ x y).2 h), mr_ xs ys]; simp [h]
  ·have := fun q => h ((el_ x y).1 q)
   rw [if_neg this]; simp only [List.cons.injEq, h, false_and, iff_false]; exact this
def l8_ (n : List UInt8) (s : List (List UInt8)) (o : List UInt8) (os : List (List UInt8)) : Int := if hW_ n o = 0 then e7_ s os else hW_ n o
def c2_ (n : List UInt8) (s : List (List UInt8)) (o : List UInt8) (os : List (List UInt8)) : Bool := if n = o then ce_ s os else Op.bytesLess n o
theorem rV_ (n : List UInt8) (s : List (List UInt8)) (o : List UInt8) (os : List (List UInt8)) : l8_ n s o os < 0 ↔ c2_ n s o os = true := by
 unfold l8_ c2_
 by_cases h : n = o
 ·rw [if_pos ((gl_ n o).2 h), if_pos h]; exact n9_ s os
 ·rw [if_neg (fun q => h ((gl_ n o).1 q)), if_neg h]; exact no_ n o
theorem q7_ (n : List UInt8) (s : List (List UInt8)) (o : List UInt8) (os : List (List UInt8)) : l8_ n s o os = 0 ↔ n = o ∧ s = os := by
 unfold l8_
 by_cases h : n = o
 ·rw [if_pos ((gl_ n o).2 h), mr_]; simp [h]
 ·have := fun q => h ((gl_ n o).1 q)
  rw [if_neg this]; simp only [h, false_and, iff_false]; exact this
end Go.AW
