/-
 The order of texts and of lists of texts, as both programs reckon it. Nothing of any program.
-/
import Derived.Test.YthahmhkbcdpkjabGreatDoorPlNum
import GoSem.Op.String
namespace Go.AW
set_option linter.unusedSimpArgs false
open List
theorem fL_ : ∀ a : List UInt8, Op.bytesLess a a = false
 | [] => rfl
 | x :: a => by simp [Op.bytesLess, fL_ a, UInt8.lt_irrefl]
theorem ia_ : ∀ a b : List UInt8, Op.bytesLess a b = false → Op.bytesLess b a = false → a = b
 | [], [], _, _ => rfl
 | [], _ :: _, h, _ => by simp [Op.bytesLess] at h
 | _ :: _, [], _, h => by simp [Op.bytesLess] at h
 | x :: a, y :: b, h1, h2 => by
  simp only [Op.bytesLess, Bool.or_eq_false_iff, Bool.and_eq_false_iff, decide_eq_false_iff_not, beq_eq_false_iff_ne] at h1 h2
  have e : x = y := UInt8.le_antisymm (UInt8.not_lt.1 h2.1) (UInt8.not_lt.1 h1.1)
  subst e
  rw [ia_ a b (by simpa using h1.2) (by simpa using h2.2)]
theorem kN_ : ∀ a b : List UInt8, Op.bytesLess a b = true → Op.bytesLess b a = false
 | [], [], h => by simp [Op.bytesLess] at h
 | [], _ :: _, _ => rfl
 | _ :: _, [], h => by simp [Op.bytesLess] at h
 | x :: a, y :: b, h => by
  simp only [Op.bytesLess, Bool.or_eq_true, Bool.and_eq_true, decide_eq_true_eq, beq_iff_eq] at h
  simp only [Op.bytesLess, Bool.or_eq_false_iff, Bool.and_eq_false_iff, decide_eq_false_iff_not, beq_eq_false_iff_ne]
  rcases h with h | ⟨h, k⟩
  ·exact ⟨fun q => UInt8.lt_irrefl x (UInt8.lt_trans h q), .inl fun e => by subst e; exact UInt8.lt_irrefl _ h⟩
  ·subst h
   exact ⟨UInt8.lt_irrefl _, .inr (kN_ a b k)⟩
def h7_ (a b : List UInt8) : Int := if Op.bytesLess a b then -1 else if Op.bytesLess b a then 1 else 0
def jP_ (a b : Int) : Int := if a < b then -1 else if b < a then 1 else 0
theorem i7_ (a b : List UInt8) : h7_ a b = 0 ↔ a = b := by
 unfold h7_
 constructor
 ·intro h
  split at h
  ·simp at h
  ·split at h
   ·simp at h
   ·exact ia_ a b (by simpa using ‹¬ Op.bytesLess a b = true›) (by simpa using ‹¬ Op.bytesLess b a = true›)
 ·rintro rfl; simp [fL_]
theorem nu_ (a b : List UInt8) : h7_ a b < 0 ↔ Op.bytesLess a b = true := by
 unfold h7_
 split
 ·simp_all
 ·split <;> simp_all
theorem qe_ (a b : Int) : jP_ a b = 0 ↔ a = b := by
 unfold jP_
 split
 ·omega
 ·split <;> omega
theorem rD_ (a b : Int) : jP_ a b < 0 ↔ a < b := by
 unfold jP_
 split
 ·omega
 ·split <;> omega
def dv_ (a b : List UInt8) : Int := if b2_ a && b2_ b then jP_ (bJ_ a) (bJ_ b) else if b2_ a then -1 else if b2_ b then 1 else h7_ a b
def before (a b : List UInt8) : Bool := if b2_ a && b2_ b then decide (bJ_ a < bJ_ b) else if b2_ a != b2_ b then b2_ a else Op.bytesLess a b
theorem iI_ (a b : List UInt8) : dv_ a b = 0 ↔ a = b := by
 unfold dv_
 cases ha : b2_ a <;> cases hb : b2_ b <;> simp only [Bool.and_true, Bool.and_false, Bool.false_eq_true, if_true, if_false]
 ·exact i7_ a b
 ·constructor
  ·intro h; simp at h
  ·rintro rfl; rw [ha] at hb; simp at hb
 ·constructor
  ·intro h; simp at h
  ·rintro rfl; rw [ha] at hb; simp at hb
 ·rw [qe_]
  exact ⟨qA_ ha hb, fun h => by rw [h]⟩
theorem nZ_ (a b : List UInt8) : dv_ a b < 0 ↔ before a b = true := by
 unfold dv_ before
 cases ha : b2_ a <;> cases hb : b2_ b <;> simp only [Bool.and_true, Bool.and_false, Bool.false_eq_true, if_true, if_false, bne_self_eq_false]
 ·exact nu_ a b
 ·simp
 ·simp
 ·rw [rD_]; simp
def hv_ : List (List UInt8) → List (List UInt8) → Int
 | [], [] => 0
 | [], _ :: _ => -1
 | _ :: _, [] => 1
 | x :: xs, y :: ys => if dv_ x y = 0 then hv_ xs ys else dv_ x y
def ds_ : List (List UInt8) → List (List UInt8) → Bool
 | [], [] => false
 | [], _ :: _ => true
 | _ :: _, [] => false
 | x :: xs, y :: ys => if x = y then ds_ xs ys else before x y
theorem ni_ : ∀ xs ys, hv_ xs ys < 0 ↔ ds_ xs ys = true
 | [], [] => by simp [hv_, ds_]
 | [], _ :: _ => by simp [hv_, ds_]
 | _ :: _, [] => by simp [hv_, ds_]
 | x :: xs, y :: ys => by
  simp only [hv_, ds_]
  by_cases h : x = y
  ·rw [if_pos ((iI_ x y).2 h), if_pos h]; exact ni_ xs ys
  ·rw [if_neg (fun q => h ((iI_ x y).1 q)), if_neg h]; exact nZ_ x y
def lk_ (n : List UInt8) (s : List (List UInt8)) (o : List UInt8) (os : List (List UInt8)) : Int := if h7_ n o = 0 then hv_ s os else h7_ n o
def fQ_ (n : List UInt8) (s : List (List UInt8)) (o : List UInt8) (os : List (List UInt8)) : Bool := if n = o then ds_ s os else Op.bytesLess n o
theorem q6_ (n : List UInt8) (s : List (List UInt8)) (o : List UInt8) (os : List (List UInt8)) : lk_ n s o os < 0 ↔ fQ_ n s o os = true := by
 unfold lk_ fQ_
 by_cases h : n = o
 ·rw [if_pos ((i7_ n o).2 h), if_pos h]; exact ni_ s os
 ·rw [if_neg (fun q => h ((i7_ n o).1 q)), if_neg h]; exact nu_ n o
def cL_ (n j : Nat) : UInt8 := UInt8.ofNat (n / 256 ^ j % 256)
def be8 (n : Nat) : List UInt8 := [cL_ n 7, cL_ n 6, cL_ n 5, cL_ n 4, cL_ n 3, cL_ n 2, cL_ n 1, cL_ n 0]
theorem mJ_ (n j : Nat) : (cL_ n j).toNat = n / 256 ^ j % 256 := by
 unfold cL_; rw [UInt8.toNat_ofNat']; omega
def esc : List UInt8 → List UInt8
 | [] => []
 | b :: l => if b = 0 then 0 :: 255 :: esc l else b :: esc l
def c4_ (l : List UInt8) : Nat := (bJ_ l + 1000000000000000000).toNat
def cZ_ (l : List UInt8) : List UInt8 := if b2_ l then 1 :: be8 (c4_ l) else 2 :: (esc l ++ [0, 0])
def e1_ (xs : List (List UInt8)) : List UInt8 := xs.flatMap cZ_
theorem qM_ (x : List UInt8) (xs : List (List UInt8)) : e1_ (x :: xs) = cZ_ x ++ e1_ xs := rfl
theorem lx_ (l : List UInt8) : 1 ≤ c4_ l ∧ c4_ l ≤ 1999999999999999999 := by
 have := d7_ l
 unfold c4_; omega
theorem ly_ (l : List UInt8) : ((c4_ l : Nat) : Int) = bJ_ l + 1000000000000000000 := by
 have := d7_ l
 unfold c4_; omega
theorem ig_ : ∀ l : List UInt8, (esc l).length ≤ 2 * l.length
 | [] => by simp [esc]
 | b :: l => by
  have := ig_ l
  unfold esc
  split <;> simp only [List.length_cons] <;> omega
theorem iB_ (l : List UInt8) : (cZ_ l).length ≤ 2 * l.length + 9 := by
 have := ig_ l
 unfold cZ_
 split
 ·simp [be8]
 ·simp only [List.length_cons, List.length_append, List.length_nil]; omega
theorem gr_ (n : Nat) : (be8 n).length = 8 := rfl
end Go.AW
