/-
 The order of texts and of lists of texts, as both programs reckon it. Nothing of any program.
-/
import Derived.Test.YtodgohgdnmifaaaGreatDoorPlNum
import GoSem.Op.String
namespace Go.AW
set_option linter.unusedSimpArgs false
theorem eU_ : ∀ a : List UInt8, Op.bytesLess a a = false
 | [] => rfl
 | x :: a => by simp [Op.bytesLess, eU_ a, UInt8.lt_irrefl]
theorem gJ_ : ∀ a b : List UInt8, Op.bytesLess a b = false → Op.bytesLess b a = false → a = b
 | [], [], _, _ => rfl
 | [], _ :: _, h, _ => by simp [Op.bytesLess] at h
 | _ :: _, [], _, h => by simp [Op.bytesLess] at h
 | x :: a, y :: b, h1, h2 => by
  simp only [Op.bytesLess, Bool.or_eq_false_iff, Bool.and_eq_false_iff, decide_eq_false_iff_not, beq_eq_false_iff_ne] at h1 h2
  have e : x = y := UInt8.le_antisymm (UInt8.not_lt.1 h2.1) (UInt8.not_lt.1 h1.1)
  subst e
  rw [gJ_ a b (by simpa using h1.2) (by simpa using h2.2)]
theorem lx_ : ∀ a b : List UInt8, Op.bytesLess a b = true → Op.bytesLess b a = false
 | [], [], h => by simp [Op.bytesLess] at h
 | [], _ :: _, _ => rfl
 | _ :: _, [], h => by simp [Op.bytesLess] at h
 | x :: a, y :: b, h => by
  simp only [Op.bytesLess, Bool.or_eq_true, Bool.and_eq_true, decide_eq_true_eq, beq_iff_eq] at h
  simp only [Op.bytesLess, Bool.or_eq_false_iff, Bool.and_eq_false_iff, decide_eq_false_iff_not, beq_eq_false_iff_ne]
  rcases h with h | ⟨h, k⟩
  ·exact ⟨fun q => UInt8.lt_irrefl x (UInt8.lt_trans h q), .inl fun e => by subst e; exact UInt8.lt_irrefl _ h⟩
  ·subst h
   exact ⟨UInt8.lt_irrefl _, .inr (lx_ a b k)⟩
def hM_ (a b : List UInt8) : Int := if Op.bytesLess a b then -1 else if Op.bytesLess b a then 1 else 0
def fc_ (a b : Int) : Int := if a < b then -1 else if b < a then 1 else 0
theorem gh_ (a b : List UInt8) : hM_ a b = 0 ↔ a = b := by
 unfold hM_
 constructor
 ·intro h
  split at h
  ·simp at h
  ·split at h
   ·simp at h
   ·exact gJ_ a b (by simpa using ‹¬ Op.bytesLess a b = true›) (by simpa using ‹¬ Op.bytesLess b a = true›)
 ·rintro rfl; simp [eU_]
theorem nR_ (a b : List UInt8) : hM_ a b < 0 ↔ Op.bytesLess a b = true := by
 unfold hM_
 split
 ·simp_all
 ·split <;> simp_all
theorem gg_ (a b : Int) : fc_ a b = 0 ↔ a = b := by
 unfold fc_
 split
 ·omega
 ·split <;> omega
theorem nk_ (a b : Int) : fc_ a b < 0 ↔ a < b := by
 unfold fc_
 split
 ·omega
 ·split <;> omega
def da_ (a b : List UInt8) : Int := if b8_ a && b8_ b then fc_ (b0_ a) (b0_ b) else if b8_ a then -1 else if b8_ b then 1 else hM_ a b
def before (a b : List UInt8) : Bool := if b8_ a && b8_ b then decide (b0_ a < b0_ b) else if b8_ a != b8_ b then b8_ a else Op.bytesLess a b
theorem ei_ (a b : List UInt8) : da_ a b = 0 ↔ a = b := by
 unfold da_
 cases ha : b8_ a <;> cases hb : b8_ b <;> simp only [Bool.and_true, Bool.and_false, Bool.false_eq_true, if_true, if_false]
 ·exact gh_ a b
 ·constructor
  ·intro h; simp at h
  ·rintro rfl; rw [ha] at hb; simp at hb
 ·constructor
  ·intro h; simp at h
  ·rintro rfl; rw [ha] at hb; simp at hb
 ·rw [gg_]
  exact ⟨q3_ ha hb, fun h => by rw [h]⟩
theorem kd_ (a b : List UInt8) : da_ a b < 0 ↔ before a b = true := by
 unfold da_ before
 cases ha : b8_ a <;> cases hb : b8_ b <;> simp only [Bool.and_true, Bool.and_false, Bool.false_eq_true, if_true, if_false, bne_self_eq_false]
 ·exact nR_ a b
 ·simp
 ·simp
 ·rw [nk_]; simp
def e6_ : List (List UInt8) → List (List UInt8) → Int
 | [], [] => 0
 | [], _ :: _ => -1
 | _ :: _, [] => 1
 | x :: xs, y :: ys => if da_ x y = 0 then e6_ xs ys else da_ x y
def cg_ : List (List UInt8) → List (List UInt8) → Bool
 | [], [] => false
 | [], _ :: _ => true
 | _ :: _, [] => false
 | x :: xs, y :: ys => if x = y then cg_ xs ys else before x y
theorem n2_ : ∀ xs ys, e6_ xs ys < 0 ↔ cg_ xs ys = true
 | [], [] => by simp [e6_, cg_]
 | [], _ :: _ => by simp [e6_, cg_]
 | _ :: _, [] => by simp [e6_, cg_]
 | x :: xs, y :: ys => by
  simp only [e6_, cg_]
  by_cases h : x = y
  ·rw [if_pos ((ei_ x y).2 h), if_pos h]; exact n2_ xs ys
  ·rw [if_neg (fun q => h ((ei_ x y).1 q)), if_neg h]; exact kd_ x y
theorem ms_ : ∀ xs ys, e6_ xs ys = 0 ↔ xs = ys
 | [], [] => by simp [e6_]
 | [], _ :: _ => by simp [e6_]
 | _ :: _, [] => by simp [e6_]
 | x :: xs, y :: ys => by
  simp only [e6_]
  by_cases h : x = y
  ·rw [if_pos ((ei_ x y).2 h), ms_ xs ys]; simp [h]
  ·have := fun q => h ((ei_ x y).1 q)
   rw [if_neg this]; simp only [List.cons.injEq, h, false_and, iff_false]; exact this
def l8_ (n : List UInt8) (s : List (List UInt8)) (o : List UInt8) (os : List (List UInt8)) : Int := if hM_ n o = 0 then e6_ s os else hM_ n o
def c6_ (n : List UInt8) (s : List (List UInt8)) (o : List UInt8) (os : List (List UInt8)) : Bool := if n = o then cg_ s os else Op.bytesLess n o
theorem s2_ (n : List UInt8) (s : List (List UInt8)) (o : List UInt8) (os : List (List UInt8)) : l8_ n s o os < 0 ↔ c6_ n s o os = true := by
 unfold l8_ c6_
 by_cases h : n = o
 ·rw [if_pos ((gh_ n o).2 h), if_pos h]; exact n2_ s os
 ·rw [if_neg (fun q => h ((gh_ n o).1 q)), if_neg h]; exact nR_ n o
theorem qR_ (n : List UInt8) (s : List (List UInt8)) (o : List UInt8) (os : List (List UInt8)) : l8_ n s o os = 0 ↔ n = o ∧ s = os := by
 unfold l8_
 by_cases h : n = o
 ·rw [if_pos ((gh_ n o).2 h), ms_]; simp [h]
 ·have := fun q => h ((gh_ n o).1 q)
  rw [if_neg this]; simp only [h, false_and, iff_false]; exact this
end Go.AW
