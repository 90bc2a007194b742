/-
 Plain numbers of texts: the number that a text begins with, the one text of a number, and the ways in which both programs reckon them. Nothing of any program.
-/
import Derived.Lib.ItoaNum
namespace Go.AW
open List
open Go.Lib (decDigits nDigits itoa)
def cT_ (b : UInt8) : Bool := b == 43 || b == 45
def bw_ (b : UInt8) : Bool := decide (48 ≤ b.toNat) && decide (b.toNat ≤ 57)
def dgt (b : UInt8) : Nat := b.toNat - 48
def cY_ (acc : Nat) (l : List UInt8) : Nat := l.foldl (fun a b => 10 * a + dgt b) acc
theorem eo_ (acc : Nat) : cY_ acc [] = acc := by unfold cY_; rw [foldl_nil]
theorem em_ (acc : Nat) (b : UInt8) (l : List UInt8) : cY_ acc (b :: l) = cY_ (10 * acc + dgt b) l := by unfold cY_; rw [foldl_cons]
theorem iI_ (b : UInt8) (l : List UInt8) : cY_ 0 (b :: l) = cY_ (dgt b) l := by rw [em_, Nat.mul_zero, Nat.zero_add]
theorem oO_ (acc : Nat) (a b : List UInt8) : cY_ acc (a ++ b) = cY_ (cY_ acc a) b := by
 induction a generalizing acc with
 | nil => rw [nil_append, eo_]
 | cons x a ih => rw [cons_append, em_, em_, ih]
theorem ir_ (acc : Nat) (l : List UInt8) : cY_ acc l = acc * 10 ^ l.length + cY_ 0 l := by
 induction l generalizing acc with
 | nil => rw [List.length_nil, Nat.pow_zero, Nat.mul_one, eo_, eo_]; rfl
 | cons b l ih =>
  rw [em_, iI_, ih (10 * acc + dgt b), ih (dgt b), List.length_cons, Nat.pow_succ, Nat.add_mul, Nat.mul_comm 10 acc, Nat.mul_assoc, Nat.mul_comm 10, Nat.add_assoc]
theorem uM_ (acc : Nat) (l : List UInt8) : acc ≤ cY_ acc l := by
 rw [ir_]
 have : 1 ≤ 10 ^ l.length := Nat.one_le_pow _ _ (by decide)
 have := Nat.mul_le_mul_left acc this
 omega
theorem vy_ {b : UInt8} (h : bw_ b = true) : dgt b ≤ 9 := by
 simp only [bw_, Bool.and_eq_true, decide_eq_true_eq] at h
 unfold dgt; omega
theorem pi_ : ∀ (l : List UInt8), (∀ b ∈ l, dgt b ≤ 9) → cY_ 0 l < 10 ^ l.length
 | [], _ => by rw [List.length_nil, Nat.pow_zero, eo_]; exact Nat.zero_lt_one
 | b :: l, h => by
  have h2 := pi_ l (fun x hx => h x (by simp [hx]))
  have h3 := h b (by simp)
  rw [iI_, ir_, List.length_cons, Nat.pow_succ]
  generalize 10 ^ l.length = p at *
  have : dgt b * p ≤ 9 * p := Nat.mul_le_mul_right _ h3
  omega
def eQ_ (n : Nat) : List UInt8 → Nat
 | [] => n
 | c :: cs => if (999999999999999999 - dgt c) / 10 < n then 999999999999999999 else eQ_ (10 * n + dgt c) cs
theorem mL_ : ∀ (l : List UInt8) (n : Nat), n ≤ 999999999999999999 → (∀ b ∈ l, dgt b ≤ 9) → eQ_ n l = min (cY_ n l) 999999999999999999
 | [], n, h, _ => by rw [eo_]; show n = _; omega
 | c :: cs, n, h, hd => by
  have h3 := hd c (by simp)
  rw [em_]
  show (if (999999999999999999 - dgt c) / 10 < n then 999999999999999999 else eQ_ (10 * n + dgt c) cs) = _
  split
  ·have := uM_ (10 * n + dgt c) cs
   omega
  ·exact mL_ cs _ (by omega) (fun b hb => hd b (by simp [hb]))
def c7_ (n : Nat) : List UInt8 → Nat
 | [] => n
 | b :: bs => if bw_ b then c7_ (min (10 * n + dgt b) 1000000000000) bs else n
theorem lp_ : ∀ (l : List UInt8) (n : Nat), c7_ (min n 1000000000000) l = min (cY_ n (l.takeWhile bw_)) 1000000000000
 | [], n => by rw [takeWhile_nil, eo_]; rfl
 | b :: l, n => by
  simp only [c7_, takeWhile_cons]
  split
  ·have e : min (10 * min n 1000000000000 + dgt b) 1000000000000 = min (10 * n + dgt b) 1000000000000 := by omega
   rw [e, lp_ l, em_]
  ·rw [eo_]
def dF_ (n unit : Nat) : List UInt8 → Nat
 | [] => n
 | b :: bs => if bw_ b then dF_ (n + dgt b * unit) (unit / 10) bs else n
def h8_ : Nat → Nat
 | 0 => 0
 | j + 1 => 10 ^ j
theorem pE_ (j : Nat) : h8_ (j + 1) / 10 = h8_ j := by
 cases j with
 | zero => rfl
 | succ j => simp only [h8_, Nat.pow_succ]; omega
theorem lq_ (acc n : Nat) : cY_ acc (List.replicate n 48) = acc * 10 ^ n := by
 induction n generalizing acc with
 | zero => rw [replicate_zero, eo_, Nat.pow_zero, Nat.mul_one]
 | succ n ih =>
  have : dgt 48 = 0 := rfl
  rw [replicate_succ, em_, ih, this, Nat.add_zero, Nat.pow_succ, Nat.mul_comm 10 acc, Nat.mul_assoc, Nat.mul_comm 10]
theorem iw_ : ∀ (l : List UInt8) (n j : Nat), j ≤ 6 → dF_ n (h8_ j) l = n + cY_ 0 ((l.takeWhile bw_ ++ List.replicate 6 48).take j)
 | [], n, j, hj => by
  have : (([] : List UInt8).takeWhile bw_ ++ List.replicate 6 48).take j = List.replicate j 48 := by
   simp only [takeWhile_nil, nil_append, take_replicate]; congr 1; omega
  rw [this, lq_]; simp [dF_]
 | b :: l, n, j, hj => by
  simp only [dF_, takeWhile_cons]
  split
  ·cases j with
   | zero =>
    have e : h8_ 0 = 0 := rfl
    rw [e, Nat.mul_zero, Nat.add_zero, Nat.zero_div]
    have := iw_ l n 0 (by omega)
    rw [e] at this
    rw [this]; simp
   | succ j =>
    rw [pE_, iw_ l _ j (by omega), cons_append, take_succ_cons]
    rw [iI_, ir_ (dgt b), length_take]
    have : min j (l.takeWhile bw_ ++ List.replicate 6 (48 : UInt8)).length = j := by
     simp only [List.length_append, length_replicate]; omega
    rw [this]
    simp only [h8_]
    omega
  ·have : (([] : List UInt8) ++ List.replicate 6 48).take j = List.replicate j 48 := by
    simp only [nil_append, take_replicate]; congr 1; omega
   rw [this, lq_]; simp
def bo_ (l : List UInt8) : List UInt8 := l.dropWhile cT_
def dr_ (l : List UInt8) : Bool := (l.takeWhile cT_).count 45 % 2 == 1
def l3_ (r : List UInt8) : List UInt8 := r.takeWhile bw_
def ci_ (r : List UInt8) : List UInt8 :=
 match r.dropWhile bw_ with
 | 46 :: t => t.takeWhile bw_
 | _ => []
def six (f : List UInt8) : List UInt8 := (f ++ List.replicate 6 48).take 6
def eP_ (l : List UInt8) : Nat := min (cY_ 0 (l3_ (bo_ l)) * 1000000 + cY_ 0 (six (ci_ (bo_ l)))) 999999999999999999
def b0_ (l : List UInt8) : Int := if dr_ l then -(eP_ l : Int) else eP_ l
theorem jF_ (l : List UInt8) : eP_ l ≤ 999999999999999999 := Nat.min_le_right _ _
theorem iE_ (l : List UInt8) : -999999999999999999 ≤ b0_ l ∧ b0_ l ≤ 999999999999999999 := by
 have := jF_ l
 unfold b0_
 split <;> omega
theorem i8_ (l : List UInt8) : ∀ b ∈ l.takeWhile bw_, dgt b ≤ 9 := fun b hb => vy_ (by
 induction l with
 | nil => simp at hb
 | cons x l ih =>
  rw [takeWhile_cons] at hb
  split at hb
  ·rcases mem_cons.1 hb with e | e
   ·subst e; assumption
   ·exact ih e
  ·simp at hb)
theorem kV_ (r : List UInt8) : ∀ b ∈ ci_ r, dgt b ≤ 9 := by
 unfold ci_
 split
 ·exact i8_ _
 ·simp
theorem pb_ {f : List UInt8} (h : ∀ b ∈ f, dgt b ≤ 9) : ∀ b ∈ six f, dgt b ≤ 9 := by
 intro b hb
 have := mem_of_mem_take hb
 rcases mem_append.1 this with q | q
 ·exact h b q
 ·rw [eq_of_mem_replicate q]; decide
theorem iq_ (f : List UInt8) : (six f).length = 6 := by simp [six]
theorem r8_ (l : List UInt8) : eQ_ 0 (l3_ (bo_ l) ++ six (ci_ (bo_ l))) = eP_ l := by
 rw [mL_ _ _ (by omega), oO_, ir_ (cY_ 0 _), iq_]
 ·rfl
 ·intro b hb
  rcases mem_append.1 hb with q | q
  ·exact i8_ _ b q
  ·exact pb_ (kV_ _) b q
theorem sS_ (l : List UInt8) : min (min (c7_ 0 (bo_ l) * 1000000) 1000000000000000000 + cY_ 0 (six (ci_ (bo_ l)))) 999999999999999999 = eP_ l := by
 have h1 := lp_ (bo_ l) 0
 rw [Nat.zero_min] at h1
 have h2 := pi_ _ (pb_ (kV_ (bo_ l)))
 rw [iq_] at h2
 unfold eP_ l3_
 rw [h1]
 omega
def bR_ (u : Nat) : List UInt8 := if u = 0 then [] else decDigits u
def eC_ (l : List UInt8) : List UInt8 := (l.reverse.dropWhile fun b => b == 48).reverse
def iz_ (r : Nat) : List UInt8 := if r = 0 then [] else 46 :: eC_ ((decDigits (1000000 + r)).drop 1)
def cB_ (u : Nat) : List UInt8 := if u = 0 then [48] else bR_ (u / 1000000) ++ iz_ (u % 1000000)
def b5_ (n : Int) : List UInt8 := if n < 0 then 45 :: cB_ n.natAbs else cB_ n.natAbs
theorem jP_ (u : Nat) : decDigits u ≠ [] := by
 rw [decDigits]; split <;> simp
theorem gI_ : ∀ (k u : Nat), u < 10 ^ (k + 1) → nDigits u ≤ k + 1
 | 0, u, h => by rw [Go.Lib.nDigits_small (by simpa using h)]; omega
 | k + 1, u, h => by
  by_cases h1 : u < 10
  ·rw [Go.Lib.nDigits_small h1]; omega
  ·rw [Go.Lib.nDigits_big h1]
   have := gI_ k (u / 10) (by rw [Nat.pow_succ] at h; omega)
   omega
theorem ea_ (l : List UInt8) : (eC_ l).length ≤ l.length := by
 unfold eC_
 rw [length_reverse]
 have := (dropWhile_sublist (l := l.reverse) (fun b => b == 48)).length_le
 rw [length_reverse] at this
 exact this
theorem nJ_ {r : Nat} (h : r < 1000000) : (iz_ r).length ≤ 7 := by
 unfold iz_
 split
 ·simp
 ·have h1 := ea_ ((decDigits (1000000 + r)).drop 1)
  rw [length_drop, Go.Lib.decDigits_length, Go.Lib.nDigits_unique 6 (1000000 + r) (by omega) (by omega)] at h1
  rw [List.length_cons]; omega
theorem hZ_ {u : Nat} (h : u ≤ 999999999999999999) : (cB_ u).length ≤ 19 := by
 unfold cB_
 split
 ·simp
 ·rw [List.length_append]
  have h1 := nJ_ (r := u % 1000000) (by omega)
  have h2 : (bR_ (u / 1000000)).length ≤ 12 := by
   unfold bR_
   split
   ·simp
   ·rw [Go.Lib.decDigits_length]; exact gI_ 11 _ (by omega)
  omega
theorem lY_ {n : Int} (h1 : -999999999999999999 ≤ n) (h2 : n ≤ 999999999999999999) : (b5_ n).length ≤ 20 := by
 have := hZ_ (u := n.natAbs) (by omega)
 unfold b5_
 split
 ·rw [List.length_cons]; omega
 ·omega
theorem qp_ (u : Nat) : cB_ u ≠ [] := by
 unfold cB_
 split
 ·simp
 ·intro h
  have h1 := (append_eq_nil_iff.1 h).1
  have h2 := (append_eq_nil_iff.1 h).2
  have e1 : u / 1000000 = 0 := by
   unfold bR_ at h1
   split at h1
   ·assumption
   ·exact absurd h1 (jP_ _)
  have e2 : u % 1000000 = 0 := by
   unfold iz_ at h2
   split at h2
   ·assumption
   ·simp at h2
  omega
theorem pK_ (n : Int) : b5_ n ≠ [] := by
 unfold b5_
 split
 ·simp
 ·exact qp_ _
def b7_ (l : List UInt8) : Bool := decide (b5_ (b0_ l) = l)
theorem pF_ (l : List UInt8) : (decide (l ≠ []) && decide (l.length ≤ 21) && decide (b5_ (b0_ l) = l)) = b7_ l := by
 unfold b7_
 by_cases h : b5_ (b0_ l) = l
 ·have h1 := pK_ (b0_ l)
  have h2 := lY_ (iE_ l).1 (iE_ l).2
  rw [h] at h1 h2
  have h3 : l.length ≤ 21 := by omega
  simp [h, h1, h3]
 ·simp [h]
theorem rm_ {a b : List UInt8} (ha : b7_ a = true) (hb : b7_ b = true) (h : b0_ a = b0_ b) : a = b := by
 rw [← of_decide_eq_true ha, ← of_decide_eq_true hb, h]
theorem re_ {r : Nat} (h0 : r ≠ 0) (h : r < 1000000) : ∃ b ∈ (decDigits (1000000 + r)).drop 1, b ≠ 48 := by
 have hn : nDigits (1000000 + r) = 7 := Go.Lib.nDigits_unique 6 (1000000 + r) (by omega) (by omega)
 have hd : (decDigits (1000000 + r)).drop 1 = [Go.Lib.dg (1000000 + r) 5, Go.Lib.dg (1000000 + r) 4, Go.Lib.dg (1000000 + r) 3, Go.Lib.dg (1000000 + r) 2, Go.Lib.dg (1000000 + r) 1, Go.Lib.dg (1000000 + r) 0] := by
  rw [Go.Lib.decDigits_eq, hn]; rfl
 have key : ∀ j, Go.Lib.dg (1000000 + r) j = 48 → (1000000 + r) / 10 ^ j % 10 = 0 := by
  intro j hj
  have := congrArg UInt8.toNat hj
  simp only [Go.Lib.dg] at this
  rw [UInt8.toNat_ofNat'] at this
  have h2 : (48 : UInt8).toNat = 48 := rfl
  rw [h2] at this
  omega
 rw [hd]
 apply Classical.byContradiction
 intro hc
 have hall : ∀ b ∈ [Go.Lib.dg (1000000 + r) 5, Go.Lib.dg (1000000 + r) 4, Go.Lib.dg (1000000 + r) 3, Go.Lib.dg (1000000 + r) 2, Go.Lib.dg (1000000 + r) 1, Go.Lib.dg (1000000 + r) 0], b = 48 := by
  intro b hb
  apply Classical.byContradiction
  intro hn
  exact hc ⟨b, hb, hn⟩
 have k5 := key 5 (hall _ (by simp))
 have k4 := key 4 (hall _ (by simp))
 have k3 := key 3 (hall _ (by simp))
 have k2 := key 2 (hall _ (by simp))
 have k1 := key 1 (hall _ (by simp))
 have k0 := key 0 (hall _ (by simp))
 simp only [Nat.reducePow] at k5 k4 k3 k2 k1 k0
 omega
end Go.AW
