/-
 The order of texts and of lists of texts, as both programs reckon it. Nothing of any program.
-/
import Derived.Test.YtodgohgdnmifaaaGreatDoorPlNum
import GoSem.Op.String
namespace Go.AW
set_option linter.unusedSimpArgs false
theorem eQ_ : ∀ a : List UInt8, Op.bytesLess a a = false
 | [] => rfl
 | x :: a => by simp [Op.bytesLess, eQ_ a, UInt8.lt_irrefl]
theorem gC_ : ∀ a b : List UInt8, Op.bytesLess a b = false → Op.bytesLess b a = false → a = b
 | [], [], _, _ => rfl
 | [], _ :: _, h, _ => by simp [Op.bytesLess] at h
 | _ :: _, [], _, h => by simp [Op.bytesLess] at h
 | x :: a, y :: b, h1, h2 => by
  simp only [Op.bytesLess, Bool.or_eq_false_iff, Bool.and_eq_false_iff, decide_eq_false_iff_not, beq_eq_false_iff_ne] at h1 h2
  have e : x = y := UInt8.le_antisymm (UInt8.not_lt.1 h2.1) (UInt8.not_lt.1 h1.1)
  subst e
  rw [gC_ a b (by simpa using h1.2) (by simpa using h2.2)]
theorem kS_ : ∀ a b : List UInt8, Op.bytesLess a b = true → Op.bytesLess b a = false
 | [], [], h => by simp [Op.bytesLess] at h
 | [], _ :: _, _ => rfl
 | _ :: _, [], h => by simp [Op.bytesLess] at h
 | x :: a, y :: b, h => by
  simp only [Op.bytesLess, Bool.or_eq_true, Bool.and_eq_true, decide_eq_true_eq, beq_iff_eq] at h
  simp only [Op.bytesLess, Bool.or_eq_false_iff, Bool.and_eq_false_iff, decide_eq_false_iff_not, beq_eq_false_iff_ne]
  rcases h with h | ⟨h, k⟩
  ·exact ⟨fun q => UInt8.lt_irrefl x (UInt8.lt_trans h q), .inl fun e => by subst e; exact UInt8.lt_irrefl _ h⟩
  ·subst h
   exact ⟨UInt8.lt_irrefl _, .inr (kS_ a b k)⟩
def hM_ (a b : List UInt8) : Int := if Op.bytesLess a b then -1 else if Op.bytesLess b a then 1 else 0
def e9_ (a b : Int) : Int := if a < b then -1 else if b < a then 1 else 0
theorem gh_ (a b : List UInt8) : hM_ a b = 0 ↔ a = b := by
 unfold hM_
 constructor
 ·intro h
  split at h
  ·simp at h
  ·split at h
   ·simp at h
   ·exact gC_ a b (by simpa using ‹¬ Op.bytesLess a b = true›) (by simpa using ‹¬ Op.bytesLess b a = true›)
 ·rintro rfl; simp [eQ_]
theorem nr_ (a b : List UInt8) : hM_ a b < 0 ↔ Op.bytesLess a b = true := by
 unfold hM_
 split
 ·simp_all
 ·split <;> simp_all
theorem gf_ (a b : Int) : e9_ a b = 0 ↔ a = b := by
 unfold e9_
 split
 ·omega
 ·split <;> omega
theorem n2_ (a b : Int) : e9_ a b < 0 ↔ a < b := by
 unfold e9_
 split
 ·omega
 ·split <;> omega
def db_ (a b : List UInt8) : Int := if b5_ a && b5_ b then e9_ (b0_ a) (b0_ b) else if b5_ a then -1 else if b5_ b then 1 else hM_ a b
def before (a b : List UInt8) : Bool := if b5_ a && b5_ b then decide (b0_ a < b0_ b) else if b5_ a != b5_ b then b5_ a else Op.bytesLess a b
theorem eo_ (a b : List UInt8) : db_ a b = 0 ↔ a = b := by
 unfold db_
 cases ha : b5_ a <;> cases hb : b5_ b <;> simp only [Bool.and_true, Bool.and_false, Bool.false_eq_true, if_true, if_false]
 ·exact gh_ a b
 ·constructor
  ·intro h; simp at h
  ·rintro rfl; rw [ha] at hb; simp at hb
 ·constructor
  ·intro h; simp at h
  ·rintro rfl; rw [ha] at hb; simp at hb
 ·rw [gf_]
  exact ⟨qX_ ha hb, fun h => by rw [h]⟩
theorem kb_ (a b : List UInt8) : db_ a b < 0 ↔ before a b = true := by
 unfold db_ before
 cases ha : b5_ a <;> cases hb : b5_ b <;> simp only [Bool.and_true, Bool.and_false, Bool.false_eq_true, if_true, if_false, bne_self_eq_false]
 ·exact nr_ a b
 ·simp
 ·simp
 ·rw [n2_]; simp
def e5_ : List (List UInt8) → List (List UInt8) → Int
 | [], [] => 0
 | [], _ :: _ => -1
 | _ :: _, [] => 1
 | x :: xs, y :: ys => if db_ x y = 0 then e5_ xs ys else db_ x y
def cf_ : List (List UInt8) → List (List UInt8) → Bool
 | [], [] => false
 | [], _ :: _ => true
 | _ :: _, [] => false
 | x :: xs, y :: ys => if x = y then cf_ xs ys else before x y
theorem oa_ : ∀ xs ys, e5_ xs ys < 0 ↔ cf_ xs ys = true
 | [], [] => by simp [e5_, cf_]
 | [], _ :: _ => by simp [e5_, cf_]
 | _ :: _, [] => by simp [e5_, cf_]
 | x :: xs, y :: ys => by
  simp only [e5_, cf_]
  by_cases h : x = y
  ·rw [if_pos ((eo_ x y).2 h), if_pos h]; exact oa_ xs ys
  ·rw [if_neg (fun q => h ((eo_ x y).1 q)), if_neg h]; exact kb_ x y
theorem mo_ : ∀ xs ys, e5_ xs ys = 0 ↔ xs = ys
 | [], [] => by simp [e5_]
 | [], _ :: _ => by simp [e5_]
 | _ :: _, [] => by simp [e5_]
 | x :: xs, y :: ys => by
  simp only [e5_]
  by_cases h : x = y
  ·rw [if_pos ((eo_ x y).2 h), mo_ xs ys]; simp [h]
  ·have := fun q => h ((eo_ x y).1 q)
   rw [if_neg this]; simp only [List.cons.injEq, h, false_and, iff_false]; exact this
def lO_ (n : List UInt8) (s : List (List UInt8)) (o : List UInt8) (os : List (List UInt8)) : Int := if hM_ n o = 0 then e5_ s os else hM_ n o
def c3_ (n : List UInt8) (s : List (List UInt8)) (o : List UInt8) (os : List (List UInt8)) : Bool := if n = o then cf_ s os else Op.bytesLess n o
theorem rX_ (n : List UInt8) (s : List (List UInt8)) (o : List UInt8) (os : List (List UInt8)) : lO_ n s o os < 0 ↔ c3_ n s o os = true := by
 unfold lO_ c3_
 by_cases h : n = o
 ·rw [if_pos ((gh_ n o).2 h), if_pos h]; exact oa_ s os
 ·rw [if_neg (fun q => h ((gh_ n o).1 q)), if_neg h]; exact nr_ n o
theorem q9_ (n : List UInt8) (s : List (List UInt8)) (o : List UInt8) (os : List (List UInt8)) : lO_ n s o os = 0 ↔ n = o ∧ s = os := by
 unfold lO_
 by_cases h : n = o
 ·rw [if_pos ((gh_ n o).2 h), mo_]; simp [h]
 ·have := fun q => h ((gh_ n o).1 q)
  rw [if_neg this]; simp only [h, false_and, iff_false]; exact this
end Go.AW
