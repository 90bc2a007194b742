/-
 The order of texts and of lists of texts, as both programs reckon it. Nothing of any program.
-/
import Derived.Test.YtodgohgdnmifaaaGreatDoorPlNum
import GoSem.Op.String
namespace Go.AW
set_option linter.unusedSimpArgs false
theorem gN_ : ∀ a : List UInt8, Op.bytesLess a a = false
 | [] => rfl
 | x :: a => by simp [Op.bytesLess, gN_ a, UInt8.lt_irrefl]
theorem hu_ : ∀ a b : List UInt8, Op.bytesLess a b = false → Op.bytesLess b a = false → a = b
 | [], [], _, _ => rfl
 | [], _ :: _, h, _ => by simp [Op.bytesLess] at h
 | _ :: _, [], _, h => by simp [Op.bytesLess] at h
 | x :: a, y :: b, h1, h2 => by
  simp only [Op.bytesLess, Bool.or_eq_false_iff, Bool.and_eq_false_iff, decide_eq_false_iff_not, beq_eq_false_iff_ne] at h1 h2
  have e : x = y := UInt8.le_antisymm (UInt8.not_lt.1 h2.1) (UInt8.not_lt.1 h1.1)
  subst e
  rw [hu_ a b (by simpa using h1.2) (by simpa using h2.2)]
theorem jq_ : ∀ a b : List UInt8, Op.bytesLess a b = true → Op.bytesLess b a = false
 | [], [], h => by simp [Op.bytesLess] at h
 | [], _ :: _, _ => rfl
 | _ :: _, [], h => by simp [Op.bytesLess] at h
 | x :: a, y :: b, h => by
  simp only [Op.bytesLess, Bool.or_eq_true, Bool.and_eq_true, decide_eq_true_eq, beq_iff_eq] at h
  simp only [Op.bytesLess, Bool.or_eq_false_iff, Bool.and_eq_false_iff, decide_eq_false_iff_not, beq_eq_false_iff_ne]
  rcases h with h | ⟨h, k⟩
  ·exact ⟨fun q => UInt8.lt_irrefl x (UInt8.lt_trans h q), .inl fun e => by subst e; exact UInt8.lt_irrefl _ h⟩
  ·subst h
   exact ⟨UInt8.lt_irrefl _, .inr (jq_ a b k)⟩
def hO_ (a b : List UInt8) : Int := if Op.bytesLess a b then -1 else if Op.bytesLess b a then 1 else 0
def e1_ (a b : Int) : Int := if a < b then -1 else if b < a then 1 else 0
theorem im_ (a b : List UInt8) : hO_ a b = 0 ↔ a = b := by
 unfold hO_
 constructor
 ·intro h
  split at h
  ·simp at h
  ·split at h
   ·simp at h
   ·exact hu_ a b (by simpa using ‹¬ Op.bytesLess a b = true›) (by simpa using ‹¬ Op.bytesLess b a = true›)
 ·rintro rfl; simp [gN_]
theorem lZ_ (a b : List UInt8) : hO_ a b < 0 ↔ Op.bytesLess a b = true := by
 unfold hO_
 split
 ·simp_all
 ·split <;> simp_all
theorem ib_ (a b : Int) : e1_ a b = 0 ↔ a = b := by
 unfold e1_
 split
 ·omega
 ·split <;> omega
theorem l9_ (a b : Int) : e1_ a b < 0 ↔ a < b := by
 unfold e1_
 split
 ·omega
 ·split <;> omega
def da_ (a b : List UInt8) : Int := if ch_ a && ch_ b then e1_ (bD_ a) (bD_ b) else if ch_ a then -1 else if ch_ b then 1 else hO_ a b
def before (a b : List UInt8) : Bool := if ch_ a && ch_ b then decide (bD_ a < bD_ b) else if ch_ a != ch_ b then ch_ a else Op.bytesLess a b
theorem iE_ (a b : List UInt8) : da_ a b = 0 ↔ a = b := by
 unfold da_
 cases ha : ch_ a <;> cases hb : ch_ b <;> simp only [Bool.and_true, Bool.and_false, Bool.false_eq_true, if_true, if_false]
 ·exact im_ a b
 ·constructor
  ·intro h; simp at h
  ·rintro rfl; rw [ha] at hb; simp at hb
 ·constructor
  ·intro h; simp at h
  ·rintro rfl; rw [ha] at hb; simp at hb
 ·rw [ib_]
  exact ⟨oD_ ha hb, fun h => by rw [h]⟩
theorem mJ_ (a b : List UInt8) : da_ a b < 0 ↔ before a b = true := by
 unfold da_ before
 cases ha : ch_ a <;> cases hb : ch_ b <;> simp only [Bool.and_true, Bool.and_false, Bool.false_eq_true, if_true, if_false, bne_self_eq_false]
 ·exact lZ_ a b
 ·simp
 ·simp
 ·rw [l9_]; simp
def gS_ : List (List UInt8) → List (List UInt8) → Int
 | [], [] => 0
 | [], _ :: _ => -1
 | _ :: _, [] => 1
 | x :: xs, y :: ys => if da_ x y = 0 then gS_ xs ys else da_ x y
def dx_ : List (List UInt8) → List (List UInt8) → Bool
 | [], [] => false
 | [], _ :: _ => true
 | _ :: _, [] => false
 | x :: xs, y :: ys => if x = y then dx_ xs ys else before x y
theorem mf_ : ∀ xs ys, gS_ xs ys < 0 ↔ dx_ xs ys = true
 | [], [] => by simp [gS_, dx_]
 | [], _ :: _ => by simp [gS_, dx_]
 | _ :: _, [] => by simp [gS_, dx_]
 | x :: xs, y :: ys => by
  simp only [gS_, dx_]
  by_cases h : x = y
  ·rw [if_pos ((iE_ x y).2 h), if_pos h]; exact mf_ xs ys
  ·rw [if_neg (fun q => h ((iE_ x y).1 q)), if_neg h]; exact mJ_ x y
def n6_ (n : List UInt8) (s : List (List UInt8)) (o : List UInt8) (os : List (List UInt8)) : Int := if hO_ n o = 0 then gS_ s os else hO_ n o
def gl_ (n : List UInt8) (s : List (List UInt8)) (o : List UInt8) (os : List (List UInt8)) : Bool := if n = o then dx_ s os else Op.bytesLess n o
theorem pz_ (n : List UInt8) (s : List (List UInt8)) (o : List UInt8) (os : List (List UInt8)) : n6_ n s o os < 0 ↔ gl_ n s o os = true := by
 unfold n6_ gl_
 by_cases h : n = o
 ·rw [if_pos ((im_ n o).2 h), if_pos h]; exact mf_ s os
 ·rw [if_neg (fun q => h ((im_ n o).1 q)), if_neg h]; exact lZ_ n o
end Go.AW
