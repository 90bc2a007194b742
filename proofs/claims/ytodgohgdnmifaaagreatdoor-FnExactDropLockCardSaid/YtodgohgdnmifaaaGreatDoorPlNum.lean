/-
 Plain numbers of texts: the number that a text begins with, the one text of a number, and the ways in which both programs reckon them. Nothing of any program.
-/
import Derived.Lib.ItoaNum
namespace Go.AW
open List
open Go.Lib (decDigits nDigits itoa)
def cW_ (b : UInt8) : Bool := b == 43 || b == 45
def bw_ (b : UInt8) : Bool := decide (48 ≤ b.toNat) && decide (b.toNat ≤ 57)
def dgt (b : UInt8) : Nat := b.toNat - 48
def cX_ (acc : Nat) (l : List UInt8) : Nat := l.foldl (fun a b => 10 * a + dgt b) acc
theorem eu_ (acc : Nat) : cX_ acc [] = acc := by unfold cX_; rw [foldl_nil]
theorem eh_ (acc : Nat) (b : UInt8) (l : List UInt8) : cX_ acc (b :: l) = cX_ (10 * acc + dgt b) l := by unfold cX_; rw [foldl_cons]
theorem iS_ (b : UInt8) (l : List UInt8) : cX_ 0 (b :: l) = cX_ (dgt b) l := by rw [eh_, Nat.mul_zero, Nat.zero_add]
theorem oW_ (acc : Nat) (a b : List UInt8) : cX_ acc (a ++ b) = cX_ (cX_ acc a) b := by
 induction a generalizing acc with
 | nil => rw [nil_append, eu_]
 | cons x a ih => rw [cons_append, eh_, eh_, ih]
theorem iW_ (acc : Nat) (l : List UInt8) : cX_ acc l = acc * 10 ^ l.length + cX_ 0 l := by
 induction l generalizing acc with
 | nil => rw [List.length_nil, Nat.pow_zero, Nat.mul_one, eu_, eu_]; rfl
 | cons b l ih =>
  rw [eh_, iS_, ih (10 * acc + dgt b), ih (dgt b), List.length_cons, Nat.pow_succ, Nat.add_mul, Nat.mul_comm 10 acc, Nat.mul_assoc, Nat.mul_comm 10, Nat.add_assoc]
theorem um_ (acc : Nat) (l : List UInt8) : acc ≤ cX_ acc l := by
 rw [iW_]
 have : 1 ≤ 10 ^ l.length := Nat.one_le_pow _ _ (by decide)
 have := Nat.mul_le_mul_left acc this
 omega
theorem xh_ {b : UInt8} (h : bw_ b = true) : dgt b ≤ 9 := by
 simp only [bw_, Bool.and_eq_true, decide_eq_true_eq] at h
 unfold dgt; omega
theorem ph_ : ∀ (l : List UInt8), (∀ b ∈ l, dgt b ≤ 9) → cX_ 0 l < 10 ^ l.length
 | [], _ => by rw [List.length_nil, Nat.pow_zero, eu_]; exact Nat.zero_lt_one
 | b :: l, h => by
  have h2 := ph_ l (fun x hx => h x (by simp [hx]))
  have h3 := h b (by simp)
  rw [iS_, iW_, List.length_cons, Nat.pow_succ]
  generalize 10 ^ l.length = p at *
  have : dgt b * p ≤ 9 * p := Nat.mul_le_mul_right _ h3
  omega
def eR_ (n : Nat) : List UInt8 → Nat
 | [] => n
 | c :: cs => if (999999999999999999 - dgt c) / 10 < n then 999999999999999999 else eR_ (10 * n + dgt c) cs
theorem mx_ : ∀ (l : List UInt8) (n : Nat), n ≤ 999999999999999999 → (∀ b ∈ l, dgt b ≤ 9) → eR_ n l = min (cX_ n l) 999999999999999999
 | [], n, h, _ => by rw [eu_]; show n = _; omega
 | c :: cs, n, h, hd => by
  have h3 := hd c (by simp)
  rw [eh_]
  show (if (999999999999999999 - dgt c) / 10 < n then 999999999999999999 else eR_ (10 * n + dgt c) cs) = _
  split
  ·have := um_ (10 * n + dgt c) cs
   omega
  ·exact mx_ cs _ (by omega) (fun b hb => hd b (by simp [hb]))
def db_ (n : Nat) : List UInt8 → Nat
 | [] => n
 | b :: bs => if bw_ b then db_ (min (10 * n + dgt b) 1000000000000) bs else n
theorem lB_ : ∀ (l : List UInt8) (n : Nat), db_ (min n 1000000000000) l = min (cX_ n (l.takeWhile bw_)) 1000000000000
 | [], n => by rw [takeWhile_nil, eu_]; rfl
 | b :: l, n => by
  simp only [db_, takeWhile_cons]
  split
  ·have e : min (10 * min n 1000000000000 + dgt b) 1000000000000 = min (10 * n + dgt b) 1000000000000 := by omega
   rw [e, lB_ l, eh_]
  ·rw [eu_]
def dL_ (n unit : Nat) : List UInt8 → Nat
 | [] => n
 | b :: bs => if bw_ b then dL_ (n + dgt b * unit) (unit / 10) bs else n
def h4_ : Nat → Nat
 | 0 => 0
 | j + 1 => 10 ^ j
theorem qr_ (j : Nat) : h4_ (j + 1) / 10 = h4_ j := by
 cases j with
 | zero => rfl
 | succ j => simp only [h4_, Nat.pow_succ]; omega
theorem lg_ (acc n : Nat) : cX_ acc (List.replicate n 48) = acc * 10 ^ n := by
 induction n generalizing acc with
 | zero => rw [replicate_zero, eu_, Nat.pow_zero, Nat.mul_one]
 | succ n ih =>
  have : dgt 48 = 0 := rfl
  rw [replicate_succ, eh_, ih, this, Nat.add_zero, Nat.pow_succ, Nat.mul_comm 10 acc, Nat.mul_assoc, Nat.mul_comm 10]
theorem ip_ : ∀ (l : List UInt8) (n j : Nat), j ≤ 6 → dL_ n (h4_ j) l = n + cX_ 0 ((l.takeWhile bw_ ++ List.replicate 6 48).take j)
 | [], n, j, hj => by
  have : (([] : List UInt8).takeWhile bw_ ++ List.replicate 6 48).take j = List.replicate j 48 := by
   simp only [takeWhile_nil, nil_append, take_replicate]; congr 1; omega
  rw [this, lg_]; simp [dL_]
 | b :: l, n, j, hj => by
  simp only [dL_, takeWhile_cons]
  split
  ·cases j with
   | zero =>
    have e : h4_ 0 = 0 := rfl
    rw [e, Nat.mul_zero, Nat.add_zero, Nat.zero_div]
    have := ip_ l n 0 (by omega)
    rw [e] at this
    rw [this]; simp
   | succ j =>
    rw [qr_, ip_ l _ j (by omega), cons_append, take_succ_cons]
    rw [iS_, iW_ (dgt b), length_take]
    have : min j (l.takeWhile bw_ ++ List.replicate 6 (48 : UInt8)).length = j := by
     simp only [List.length_append, length_replicate]; omega
    rw [this]
    simp only [h4_]
    omega
  ·have : (([] : List UInt8) ++ List.replicate 6 48).take j = List.replicate j 48 := by
    simp only [nil_append, take_replicate]; congr 1; omega
   rw [this, lg_]; simp
def bl_ (l : List UInt8) : List UInt8 := l.dropWhile cW_
def dt_ (l : List UInt8) : Bool := (l.takeWhile cW_).count 45 % 2 == 1
def l1_ (r : List UInt8) : List UInt8 := r.takeWhile bw_
def cq_ (r : List UInt8) : List UInt8 :=
 match r.dropWhile bw_ with
 | 46 :: t => t.takeWhile bw_
 | _ => []
def six (f : List UInt8) : List UInt8 := (f ++ List.replicate 6 48).take 6
def eQ_ (l : List UInt8) : Nat := min (cX_ 0 (l1_ (bl_ l)) * 1000000 + cX_ 0 (six (cq_ (bl_ l)))) 999999999999999999
def b0_ (l : List UInt8) : Int := if dt_ l then -(eQ_ l : Int) else eQ_ l
theorem jE_ (l : List UInt8) : eQ_ l ≤ 999999999999999999 := Nat.min_le_right _ _
theorem iH_ (l : List UInt8) : -999999999999999999 ≤ b0_ l ∧ b0_ l ≤ 999999999999999999 := by
 have := jE_ l
 unfold b0_
 split <;> omega
theorem jc_ (l : List UInt8) : ∀ b ∈ l.takeWhile bw_, dgt b ≤ 9 := fun b hb => xh_ (by
 induction l with
 | nil => simp at hb
 | cons x l ih =>
  rw [takeWhile_cons] at hb
  split at hb
  ·rcases mem_cons.1 hb with e | e
   ·subst e; assumption
   ·exact ih e
  ·simp at hb)
theorem lv_ (r : List UInt8) : ∀ b ∈ cq_ r, dgt b ≤ 9 := by
 unfold cq_
 split
 ·exact jc_ _
 ·simp
theorem pm_ {f : List UInt8} (h : ∀ b ∈ f, dgt b ≤ 9) : ∀ b ∈ six f, dgt b ≤ 9 := by
 intro b hb
 have := mem_of_mem_take hb
 rcases mem_append.1 this with q | q
 ·exact h b q
 ·rw [eq_of_mem_replicate q]; decide
theorem iK_ (f : List UInt8) : (six f).length = 6 := by simp [six]
theorem rU_ (l : List UInt8) : eR_ 0 (l1_ (bl_ l) ++ six (cq_ (bl_ l))) = eQ_ l := by
 rw [mx_ _ _ (by omega), oW_, iW_ (cX_ 0 _), iK_]
 ·rfl
 ·intro b hb
  rcases mem_append.1 hb with q | q
  ·exact jc_ _ b q
  ·exact pm_ (lv_ _) b q
theorem rR_ (l : List UInt8) : min (min (db_ 0 (bl_ l) * 1000000) 1000000000000000000 + cX_ 0 (six (cq_ (bl_ l)))) 999999999999999999 = eQ_ l := by
 have h1 := lB_ (bl_ l) 0
 rw [Nat.zero_min] at h1
 have h2 := ph_ _ (pm_ (lv_ (bl_ l)))
 rw [iK_] at h2
 unfold eQ_ l1_
 rw [h1]
 omega
def bS_ (u : Nat) : List UInt8 := if u = 0 then [] else decDigits u
def eG_ (l : List UInt8) : List UInt8 := (l.reverse.dropWhile fun b => b == 48).reverse
def im_ (r : Nat) : List UInt8 := if r = 0 then [] else 46 :: eG_ ((decDigits (1000000 + r)).drop 1)
def cF_ (u : Nat) : List UInt8 := if u = 0 then [48] else bS_ (u / 1000000) ++ im_ (u % 1000000)
def b7_ (n : Int) : List UInt8 := if n < 0 then 45 :: cF_ n.natAbs else cF_ n.natAbs
theorem jD_ (u : Nat) : decDigits u ≠ [] := by
 rw [decDigits]; split <;> simp
theorem gI_ : ∀ (k u : Nat), u < 10 ^ (k + 1) → nDigits u ≤ k + 1
 | 0, u, h => by rw [Go.Lib.nDigits_small (by simpa using h)]; omega
 | k + 1, u, h => by
  by_cases h1 : u < 10
  ·rw [Go.Lib.nDigits_small h1]; omega
  ·rw [Go.Lib.nDigits_big h1]
   have := gI_ k (u / 10) (by rw [Nat.pow_succ] at h; omega)
   omega
theorem eq_ (l : List UInt8) : (eG_ l).length ≤ l.length := by
 unfold eG_
 rw [length_reverse]
 have := (dropWhile_sublist (l := l.reverse) (fun b => b == 48)).length_le
 rw [length_reverse] at this
 exact this
theorem nG_ {r : Nat} (h : r < 1000000) : (im_ r).length ≤ 7 := by
 unfold im_
 split
 ·simp
 ·have h1 := eq_ ((decDigits (1000000 + r)).drop 1)
  rw [length_drop, Go.Lib.decDigits_length, Go.Lib.nDigits_unique 6 (1000000 + r) (by omega) (by omega)] at h1
  rw [List.length_cons]; omega
theorem id_ {u : Nat} (h : u ≤ 999999999999999999) : (cF_ u).length ≤ 19 := by
 unfold cF_
 split
 ·simp
 ·rw [List.length_append]
  have h1 := nG_ (r := u % 1000000) (by omega)
  have h2 : (bS_ (u / 1000000)).length ≤ 12 := by
   unfold bS_
   split
   ·simp
   ·rw [Go.Lib.decDigits_length]; exact gI_ 11 _ (by omega)
  omega
theorem lY_ {n : Int} (h1 : -999999999999999999 ≤ n) (h2 : n ≤ 999999999999999999) : (b7_ n).length ≤ 20 := by
 have := id_ (u := n.natAbs) (by omega)
 unfold b7_
 split
 ·rw [List.length_cons]; omega
 ·omega
theorem qi_ (u : Nat) : cF_ u ≠ [] := by
 unfold cF_
 split
 ·simp
 ·intro h
  have h1 := (append_eq_nil_iff.1 h).1
  have h2 := (append_eq_nil_iff.1 h).2
  have e1 : u / 1000000 = 0 := by
   unfold bS_ at h1
   split at h1
   ·assumption
   ·exact absurd h1 (jD_ _)
  have e2 : u % 1000000 = 0 := by
   unfold im_ at h2
   split at h2
   ·assumption
   ·simp at h2
  omega
theorem px_ (n : Int) : b7_ n ≠ [] := by
 unfold b7_
 split
 ·simp
 ·exact qi_ _
def b8_ (l : List UInt8) : Bool := decide (b7_ (b0_ l) = l)
theorem qw_ (l : List UInt8) : (decide (l ≠ []) && decide (l.length ≤ 21) && decide (b7_ (b0_ l) = l)) = b8_ l := by
 unfold b8_
 by_cases h : b7_ (b0_ l) = l
 ·have h1 := px_ (b0_ l)
  have h2 := lY_ (iH_ l).1 (iH_ l).2
  rw [h] at h1 h2
  have h3 : l.length ≤ 21 := by omega
  simp [h, h1, h3]
 ·simp [h]
theorem q3_ {a b : List UInt8} (ha : b8_ a = true) (hb : b8_ b = true) (h : b0_ a = b0_ b) : a = b := by
 rw [← of_decide_eq_true ha, ← of_decide_eq_true hb, h]
theorem qO_ {r : Nat} (h0 : r ≠ 0) (h : r < 1000000) : ∃ b ∈ (decDigits (1000000 + r)).drop 1, b ≠ 48 := by
 have hn : nDigits (1000000 + r) = 7 := Go.Lib.nDigits_unique 6 (1000000 + r) (by omega) (by omega)
 have hd : (decDigits (1000000 + r)).drop 1 = [Go.Lib.dg (1000000 + r) 5, Go.Lib.dg (1000000 + r) 4, Go.Lib.dg (1000000 + r) 3, Go.Lib.dg (1000000 + r) 2, Go.Lib.dg (1000000 + r) 1, Go.Lib.dg (1000000 + r) 0] := by
  rw [Go.Lib.decDigits_eq, hn]; rfl
 have key : ∀ j, Go.Lib.dg (1000000 + r) j = 48 → (1000000 + r) / 10 ^ j % 10 = 0 := by
  intro j hj
  have := congrArg UInt8.toNat hj
  simp only [Go.Lib.dg] at this
  rw [UInt8.toNat_ofNat'] at this
  have h2 : (48 : UInt8).toNat = 48 := rfl
  rw [h2] at this
  omega
 rw [hd]
 apply Classical.byContradiction
 intro hc
 have hall : ∀ b ∈ [Go.Lib.dg (1000000 + r) 5, Go.Lib.dg (1000000 + r) 4, Go.Lib.dg (1000000 + r) 3, Go.Lib.dg (1000000 + r) 2, Go.Lib.dg (1000000 + r) 1, Go.Lib.dg (1000000 + r) 0], b = 48 := by
  intro b hb
  apply Classical.byContradiction
  intro hn
  exact hc ⟨b, hb, hn⟩
 have k5 := key 5 (hall _ (by simp))
 have k4 := key 4 (hall _ (by simp))
 have k3 := key 3 (hall _ (by simp))
 have k2 := key 2 (hall _ (by simp))
 have k1 := key 1 (hall _ (by simp))
 have k0 := key 0 (hall _ (by simp))
 simp only [Nat.reducePow] at k5 k4 k3 k2 k1 k0
 omega
end Go.AW
