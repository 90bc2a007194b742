/-
 Plain numbers of texts: the number that a text begins with, the one text of a number, and the ways in which both programs reckon them. Nothing of any program.
-/
import Derived.Lib.ItoaNum
namespace Go.AW
open List
open Go.Lib (decDigits nDigits itoa)
def cF_ (b : UInt8) : Bool := b == 43 || b == 45
def bm_ (b : UInt8) : Bool := decide (48 ≤ b.toNat) && decide (b.toNat ≤ 57)
def dgt (b : UInt8) : Nat := b.toNat - 48
def cG_ (acc : Nat) (l : List UInt8) : Nat := l.foldl (fun a b => 10 * a + dgt b) acc
theorem ee_ (acc : Nat) : cG_ acc [] = acc := by unfold cG_; rw [foldl_nil]
theorem d8_ (acc : Nat) (b : UInt8) (l : List UInt8) : cG_ acc (b :: l) = cG_ (10 * acc + dgt b) l := by unfold cG_; rw [foldl_cons]
theorem it_ (b : UInt8) (l : List UInt8) : cG_ 0 (b :: l) = cG_ (dgt b) l := by rw [d8_, Nat.mul_zero, Nat.zero_add]
theorem ok_ (acc : Nat) (a b : List UInt8) : cG_ acc (a ++ b) = cG_ (cG_ acc a) b := by
 induction a generalizing acc with
 | nil => rw [nil_append, ee_]
 | cons x a ih => rw [cons_append, d8_, d8_, ih]
theorem il_ (acc : Nat) (l : List UInt8) : cG_ acc l = acc * 10 ^ l.length + cG_ 0 l := by
 induction l generalizing acc with
 | nil => rw [List.length_nil, Nat.pow_zero, Nat.mul_one, ee_, ee_]; rfl
 | cons b l ih =>
  rw [d8_, it_, ih (10 * acc + dgt b), ih (dgt b), List.length_cons, Nat.pow_succ, Nat.add_mul, Nat.mul_comm 10 acc, Nat.mul_assoc, Nat.mul_comm 10, Nat.add_assoc]
theorem tv_ (acc : Nat) (l : List UInt8) : acc ≤ cG_ acc l := by
 rw [il_]
 have : 1 ≤ 10 ^ l.length := Nat.one_le_pow _ _ (by decide)
 have := Nat.mul_le_mul_left acc this
 omega
theorem uT_ {b : UInt8} (h : bm_ b = true) : dgt b ≤ 9 := by
 simp only [bm_, Bool.and_eq_true, decide_eq_true_eq] at h
 unfold dgt; omega
theorem oI_ : ∀ (l : List UInt8), (∀ b ∈ l, dgt b ≤ 9) → cG_ 0 l < 10 ^ l.length
 | [], _ => by rw [List.length_nil, Nat.pow_zero, ee_]; exact Nat.zero_lt_one
 | b :: l, h => by
  have h2 := oI_ l (fun x hx => h x (by simp [hx]))
  have h3 := h b (by simp)
  rw [it_, il_, List.length_cons, Nat.pow_succ]
  generalize 10 ^ l.length = p at *
  have : dgt b * p ≤ 9 * p := Nat.mul_le_mul_right _ h3
  omega
def eH_ (n : Nat) : List UInt8 → Nat
 | [] => n
 | c :: cs => if (999999999999999999 - dgt c) / 10 < n then 999999999999999999 else eH_ (10 * n + dgt c) cs
theorem lY_ : ∀ (l : List UInt8) (n : Nat), n ≤ 999999999999999999 → (∀ b ∈ l, dgt b ≤ 9) → eH_ n l = min (cG_ n l) 999999999999999999
 | [], n, h, _ => by rw [ee_]; show n = _; omega
 | c :: cs, n, h, hd => by
  have h3 := hd c (by simp)
  rw [d8_]
  show (if (999999999999999999 - dgt c) / 10 < n then 999999999999999999 else eH_ (10 * n + dgt c) cs) = _
  split
  ·have := tv_ (10 * n + dgt c) cs
   omega
  ·exact lY_ cs _ (by omega) (fun b hb => hd b (by simp [hb]))
def cS_ (n : Nat) : List UInt8 → Nat
 | [] => n
 | b :: bs => if bm_ b then cS_ (min (10 * n + dgt b) 1000000000000) bs else n
theorem kJ_ : ∀ (l : List UInt8) (n : Nat), cS_ (min n 1000000000000) l = min (cG_ n (l.takeWhile bm_)) 1000000000000
 | [], n => by rw [takeWhile_nil, ee_]; rfl
 | b :: l, n => by
  simp only [cS_, takeWhile_cons]
  split
  ·have e : min (10 * min n 1000000000000 + dgt b) 1000000000000 = min (10 * n + dgt b) 1000000000000 := by omega
   rw [e, kJ_ l, d8_]
  ·rw [ee_]
def dD_ (n unit : Nat) : List UInt8 → Nat
 | [] => n
 | b :: bs => if bm_ b then dD_ (n + dgt b * unit) (unit / 10) bs else n
def hE_ : Nat → Nat
 | 0 => 0
 | j + 1 => 10 ^ j
theorem po_ (j : Nat) : hE_ (j + 1) / 10 = hE_ j := by
 cases j with
 | zero => rfl
 | succ j => simp only [hE_, Nat.pow_succ]; omega
theorem kx_ (acc n : Nat) : cG_ acc (List.replicate n 48) = acc * 10 ^ n := by
 induction n generalizing acc with
 | zero => rw [replicate_zero, ee_, Nat.pow_zero, Nat.mul_one]
 | succ n ih =>
  have : dgt 48 = 0 := rfl
  rw [replicate_succ, d8_, ih, this, Nat.add_zero, Nat.pow_succ, Nat.mul_comm 10 acc, Nat.mul_assoc, Nat.mul_comm 10]
theorem ic_ : ∀ (l : List UInt8) (n j : Nat), j ≤ 6 → dD_ n (hE_ j) l = n + cG_ 0 ((l.takeWhile bm_ ++ List.replicate 6 48).take j)
 | [], n, j, hj => by
  have : (([] : List UInt8).takeWhile bm_ ++ List.replicate 6 48).take j = List.replicate j 48 := by
   simp only [takeWhile_nil, nil_append, take_replicate]; congr 1; omega
  rw [this, kx_]; simp [dD_]
 | b :: l, n, j, hj => by
  simp only [dD_, takeWhile_cons]
  split
  ·cases j with
   | zero =>
    have e : hE_ 0 = 0 := rfl
    rw [e, Nat.mul_zero, Nat.add_zero, Nat.zero_div]
    have := ic_ l n 0 (by omega)
    rw [e] at this
    rw [this]; simp
   | succ j =>
    rw [po_, ic_ l _ j (by omega), cons_append, take_succ_cons]
    rw [it_, il_ (dgt b), length_take]
    have : min j (l.takeWhile bm_ ++ List.replicate 6 (48 : UInt8)).length = j := by
     simp only [List.length_append, length_replicate]; omega
    rw [this]
    simp only [hE_]
    omega
  ·have : (([] : List UInt8) ++ List.replicate 6 48).take j = List.replicate j 48 := by
    simp only [nil_append, take_replicate]; congr 1; omega
   rw [this, kx_]; simp
def bd_ (l : List UInt8) : List UInt8 := l.dropWhile cF_
def db_ (l : List UInt8) : Bool := (l.takeWhile cF_).count 45 % 2 == 1
def k7_ (r : List UInt8) : List UInt8 := r.takeWhile bm_
def cd_ (r : List UInt8) : List UInt8 :=
 match r.dropWhile bm_ with
 | 46 :: t => t.takeWhile bm_
 | _ => []
def six (f : List UInt8) : List UInt8 := (f ++ List.replicate 6 48).take 6
def eK_ (l : List UInt8) : Nat := min (cG_ 0 (k7_ (bd_ l)) * 1000000 + cG_ 0 (six (cd_ (bd_ l)))) 999999999999999999
def bJ_ (l : List UInt8) : Int := if db_ l then -(eK_ l : Int) else eK_ l
theorem iU_ (l : List UInt8) : eK_ l ≤ 999999999999999999 := Nat.min_le_right _ _
theorem d7_ (l : List UInt8) : -999999999999999999 ≤ bJ_ l ∧ bJ_ l ≤ 999999999999999999 := by
 have := iU_ l
 unfold bJ_
 split <;> omega
theorem iu_ (l : List UInt8) : ∀ b ∈ l.takeWhile bm_, dgt b ≤ 9 := fun b hb => uT_ (by
 induction l with
 | nil => simp at hb
 | cons x l ih =>
  rw [takeWhile_cons] at hb
  split at hb
  ·rcases mem_cons.1 hb with e | e
   ·subst e; assumption
   ·exact ih e
  ·simp at hb)
theorem kQ_ (r : List UInt8) : ∀ b ∈ cd_ r, dgt b ≤ 9 := by
 unfold cd_
 split
 ·exact iu_ _
 ·simp
theorem oH_ {f : List UInt8} (h : ∀ b ∈ f, dgt b ≤ 9) : ∀ b ∈ six f, dgt b ≤ 9 := by
 intro b hb
 have := mem_of_mem_take hb
 rcases mem_append.1 this with q | q
 ·exact h b q
 ·rw [eq_of_mem_replicate q]; decide
theorem ii_ (f : List UInt8) : (six f).length = 6 := by simp [six]
theorem rZ_ (l : List UInt8) : eH_ 0 (k7_ (bd_ l) ++ six (cd_ (bd_ l))) = eK_ l := by
 rw [lY_ _ _ (by omega), ok_, il_ (cG_ 0 _), ii_]
 ·rfl
 ·intro b hb
  rcases mem_append.1 hb with q | q
  ·exact iu_ _ b q
  ·exact oH_ (kQ_ _) b q
theorem r3_ (l : List UInt8) : min (min (cS_ 0 (bd_ l) * 1000000) 1000000000000000000 + cG_ 0 (six (cd_ (bd_ l)))) 999999999999999999 = eK_ l := by
 have h1 := kJ_ (bd_ l) 0
 rw [Nat.zero_min] at h1
 have h2 := oI_ _ (oH_ (kQ_ (bd_ l)))
 rw [ii_] at h2
 unfold eK_ k7_
 rw [h1]
 omega
def bD_ (u : Nat) : List UInt8 := if u = 0 then [] else decDigits u
def eA_ (l : List UInt8) : List UInt8 := (l.reverse.dropWhile fun b => b == 48).reverse
def hU_ (r : Nat) : List UInt8 := if r = 0 then [] else 46 :: eA_ ((decDigits (1000000 + r)).drop 1)
def cw_ (u : Nat) : List UInt8 := if u = 0 then [48] else bD_ (u / 1000000) ++ hU_ (u % 1000000)
def bW_ (n : Int) : List UInt8 := if n < 0 then 45 :: cw_ n.natAbs else cw_ n.natAbs
theorem iL_ (u : Nat) : decDigits u ≠ [] := by
 rw [decDigits]; split <;> simp
theorem gq_ : ∀ (k u : Nat), u < 10 ^ (k + 1) → nDigits u ≤ k + 1
 | 0, u, h => by rw [Go.Lib.nDigits_small (by simpa using h)]; omega
 | k + 1, u, h => by
  by_cases h1 : u < 10
  ·rw [Go.Lib.nDigits_small h1]; omega
  ·rw [Go.Lib.nDigits_big h1]
   have := gq_ k (u / 10) (by rw [Nat.pow_succ] at h; omega)
   omega
theorem ef_ (l : List UInt8) : (eA_ l).length ≤ l.length := by
 unfold eA_
 rw [length_reverse]
 have := (dropWhile_sublist (l := l.reverse) (fun b => b == 48)).length_le
 rw [length_reverse] at this
 exact this
theorem mL_ {r : Nat} (h : r < 1000000) : (hU_ r).length ≤ 7 := by
 unfold hU_
 split
 ·simp
 ·have h1 := ef_ ((decDigits (1000000 + r)).drop 1)
  rw [length_drop, Go.Lib.decDigits_length, Go.Lib.nDigits_unique 6 (1000000 + r) (by omega) (by omega)] at h1
  rw [List.length_cons]; omega
theorem hH_ {u : Nat} (h : u ≤ 999999999999999999) : (cw_ u).length ≤ 19 := by
 unfold cw_
 split
 ·simp
 ·rw [List.length_append]
  have h1 := mL_ (r := u % 1000000) (by omega)
  have h2 : (bD_ (u / 1000000)).length ≤ 12 := by
   unfold bD_
   split
   ·simp
   ·rw [Go.Lib.decDigits_length]; exact gq_ 11 _ (by omega)
  omega
theorem k0_ {n : Int} (h1 : -999999999999999999 ≤ n) (h2 : n ≤ 999999999999999999) : (bW_ n).length ≤ 20 := by
 have := hH_ (u := n.natAbs) (by omega)
 unfold bW_
 split
 ·rw [List.length_cons]; omega
 ·omega
theorem pE_ (u : Nat) : cw_ u ≠ [] := by
 unfold cw_
 split
 ·simp
 ·intro h
  have h1 := (append_eq_nil_iff.1 h).1
  have h2 := (append_eq_nil_iff.1 h).2
  have e1 : u / 1000000 = 0 := by
   unfold bD_ at h1
   split at h1
   ·assumption
   ·exact absurd h1 (iL_ _)
  have e2 : u % 1000000 = 0 := by
   unfold hU_ at h2
   split at h2
   ·assumption
   ·simp at h2
  omega
theorem pa_ (n : Int) : bW_ n ≠ [] := by
 unfold bW_
 split
 ·simp
 ·exact pE_ _
def b2_ (l : List UInt8) : Bool := decide (bW_ (bJ_ l) = l)
theorem pv_ (l : List UInt8) : (decide (l ≠ []) && decide (l.length ≤ 21) && decide (bW_ (bJ_ l) = l)) = b2_ l := by
 unfold b2_
 by_cases h : bW_ (bJ_ l) = l
 ·have h1 := pa_ (bJ_ l)
  have h2 := k0_ (d7_ l).1 (d7_ l).2
  rw [h] at h1 h2
  have h3 : l.length ≤ 21 := by omega
  simp [h, h1, h3]
 ·simp [h]
theorem qA_ {a b : List UInt8} (ha : b2_ a = true) (hb : b2_ b = true) (h : bJ_ a = bJ_ b) : a = b := by
 rw [← of_decide_eq_true ha, ← of_decide_eq_true hb, h]
theorem p3_ {r : Nat} (h0 : r ≠ 0) (h : r < 1000000) : ∃ b ∈ (decDigits (1000000 + r)).drop 1, b ≠ 48 := by
 have hn : nDigits (1000000 + r) = 7 := Go.Lib.nDigits_unique 6 (1000000 + r) (by omega) (by omega)
 have hd : (decDigits (1000000 + r)).drop 1 = [Go.Lib.dg (1000000 + r) 5, Go.Lib.dg (1000000 + r) 4, Go.Lib.dg (1000000 + r) 3, Go.Lib.dg (1000000 + r) 2, Go.Lib.dg (1000000 + r) 1, Go.Lib.dg (1000000 + r) 0] := by
  rw [Go.Lib.decDigits_eq, hn]; rfl
 have key : ∀ j, Go.Lib.dg (1000000 + r) j = 48 → (1000000 + r) / 10 ^ j % 10 = 0 := by
  intro j hj
  have := congrArg UInt8.toNat hj
  simp only [Go.Lib.dg] at this
  rw [UInt8.toNat_ofNat'] at this
  have h2 : (48 : UInt8).toNat = 48 := rfl
  rw [h2] at this
  omega
 rw [hd]
 apply Classical.byContradiction
 intro hc
 have hall : ∀ b ∈ [Go.Lib.dg (1000000 + r) 5, Go.Lib.dg (1000000 + r) 4, Go.Lib.dg (1000000 + r) 3, Go.Lib.dg (1000000 + r) 2, Go.Lib.dg (1000000 + r) 1, Go.Lib.dg (1000000 + r) 0], b = 48 := by
  intro b hb
  apply Classical.byContradiction
  intro hn
  exact hc ⟨b, hb, hn⟩
 have k5 := key 5 (hall _ (by simp))
 have k4 := key 4 (hall _ (by simp))
 have k3 := key 3 (hall _ (by simp))
 have k2 := key 2 (hall _ (by simp))
 have k1 := key 1 (hall _ (by simp))
 have k0 := key 0 (hall _ (by simp))
 simp only [Nat.reducePow] at k5 k4 k3 k2 k1 k0
 omega
end Go.AW
