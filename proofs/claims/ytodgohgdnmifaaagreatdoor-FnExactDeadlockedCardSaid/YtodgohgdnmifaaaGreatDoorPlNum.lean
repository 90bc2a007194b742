/-
 Plain numbers of texts: the number that a text begins with, the one text of a number, and the ways in which both programs reckon them. Nothing of any program.
-/
import Derived.Lib.ItoaNum
namespace Go.AW
open List
open Go.Lib (decDigits nDigits itoa)
def cm_ (b : UInt8) : Bool := b == 43 || b == 45
def bf_ (b : UInt8) : Bool := decide (48 ≤ b.toNat) && decide (b.toNat ≤ 57)
def dgt (b : UInt8) : Nat := b.toNat - 48
def cq_ (acc : Nat) (l : List UInt8) : Nat := l.foldl (fun a b => 10 * a + dgt b) acc
theorem dI_ (acc : Nat) : cq_ acc [] = acc := by unfold cq_; rw [foldl_nil]
theorem dF_ (acc : Nat) (b : UInt8) (l : List UInt8) : cq_ acc (b :: l) = cq_ (10 * acc + dgt b) l := by unfold cq_; rw [foldl_cons]
theorem hg_ (b : UInt8) (l : List UInt8) : cq_ 0 (b :: l) = cq_ (dgt b) l := by rw [dF_, Nat.mul_zero, Nat.zero_add]
theorem mU_ (acc : Nat) (a b : List UInt8) : cq_ acc (a ++ b) = cq_ (cq_ acc a) b := by
 induction a generalizing acc with
 | nil => rw [nil_append, dI_]
 | cons x a ih => rw [cons_append, dF_, dF_, ih]
theorem hz_ (acc : Nat) (l : List UInt8) : cq_ acc l = acc * 10 ^ l.length + cq_ 0 l := by
 induction l generalizing acc with
 | nil => rw [List.length_nil, Nat.pow_zero, Nat.mul_one, dI_, dI_]; rfl
 | cons b l ih =>
  rw [dF_, hg_, ih (10 * acc + dgt b), ih (dgt b), List.length_cons, Nat.pow_succ, Nat.add_mul, Nat.mul_comm 10 acc, Nat.mul_assoc, Nat.mul_comm 10, Nat.add_assoc]
theorem se_ (acc : Nat) (l : List UInt8) : acc ≤ cq_ acc l := by
 rw [hz_]
 have : 1 ≤ 10 ^ l.length := Nat.one_le_pow _ _ (by decide)
 have := Nat.mul_le_mul_left acc this
 omega
theorem uX_ {b : UInt8} (h : bf_ b = true) : dgt b ≤ 9 := by
 simp only [bf_, Bool.and_eq_true, decide_eq_true_eq] at h
 unfold dgt; omega
theorem ng_ : ∀ (l : List UInt8), (∀ b ∈ l, dgt b ≤ 9) → cq_ 0 l < 10 ^ l.length
 | [], _ => by rw [List.length_nil, Nat.pow_zero, dI_]; exact Nat.zero_lt_one
 | b :: l, h => by
  have h2 := ng_ l (fun x hx => h x (by simp [hx]))
  have h3 := h b (by simp)
  rw [hg_, hz_, List.length_cons, Nat.pow_succ]
  generalize 10 ^ l.length = p at *
  have : dgt b * p ≤ 9 * p := Nat.mul_le_mul_right _ h3
  omega
def ea_ (n : Nat) : List UInt8 → Nat
 | [] => n
 | c :: cs => if (999999999999999999 - dgt c) / 10 < n then 999999999999999999 else ea_ (10 * n + dgt c) cs
theorem kO_ : ∀ (l : List UInt8) (n : Nat), n ≤ 999999999999999999 → (∀ b ∈ l, dgt b ≤ 9) → ea_ n l = min (cq_ n l) 999999999999999999
 | [], n, h, _ => by rw [dI_]; show n = _; omega
 | c :: cs, n, h, hd => by
  have h3 := hd c (by simp)
  rw [dF_]
  show (if (999999999999999999 - dgt c) / 10 < n then 999999999999999999 else ea_ (10 * n + dgt c) cs) = _
  split
  ·have := se_ (10 * n + dgt c) cs
   omega
  ·exact kO_ cs _ (by omega) (fun b hb => hd b (by simp [hb]))
def cA_ (n : Nat) : List UInt8 → Nat
 | [] => n
 | b :: bs => if bf_ b then cA_ (min (10 * n + dgt b) 1000000000000) bs else n
theorem jC_ : ∀ (l : List UInt8) (n : Nat), cA_ (min n 1000000000000) l = min (cq_ n (l.takeWhile bf_)) 1000000000000
 | [], n => by rw [takeWhile_nil, dI_]; rfl
 | b :: l, n => by
  simp only [cA_, takeWhile_cons]
  split
  ·have e : min (10 * min n 1000000000000 + dgt b) 1000000000000 = min (10 * n + dgt b) 1000000000000 := by omega
   rw [e, jC_ l, dF_]
  ·rw [dI_]
def dg_ (n unit : Nat) : List UInt8 → Nat
 | [] => n
 | b :: bs => if bf_ b then dg_ (n + dgt b * unit) (unit / 10) bs else n
def g4_ : Nat → Nat
 | 0 => 0
 | j + 1 => 10 ^ j
theorem nX_ (j : Nat) : g4_ (j + 1) / 10 = g4_ j := by
 cases j with
 | zero => rfl
 | succ j => simp only [g4_, Nat.pow_succ]; omega
theorem j8_ (acc n : Nat) : cq_ acc (List.replicate n 48) = acc * 10 ^ n := by
 induction n generalizing acc with
 | zero => rw [replicate_zero, dI_, Nat.pow_zero, Nat.mul_one]
 | succ n ih =>
  have : dgt 48 = 0 := rfl
  rw [replicate_succ, dF_, ih, this, Nat.add_zero, Nat.pow_succ, Nat.mul_comm 10 acc, Nat.mul_assoc, Nat.mul_comm 10]
theorem hl_ : ∀ (l : List UInt8) (n j : Nat), j ≤ 6 → dg_ n (g4_ j) l = n + cq_ 0 ((l.takeWhile bf_ ++ List.replicate 6 48).take j)
 | [], n, j, hj => by
  have : (([] : List UInt8).takeWhile bf_ ++ List.replicate 6 48).take j = List.replicate j 48 := by
   simp only [takeWhile_nil, nil_append, take_replicate]; congr 1; omega
  rw [this, j8_]; simp [dg_]
 | b :: l, n, j, hj => by
  simp only [dg_, takeWhile_cons]
  split
  ·cases j with
   | zero =>
    have e : g4_ 0 = 0 := rfl
    rw [e, Nat.mul_zero, Nat.add_zero, Nat.zero_div]
    have := hl_ l n 0 (by omega)
    rw [e] at this
    rw [this]; simp
   | succ j =>
    rw [nX_, hl_ l _ j (by omega), cons_append, take_succ_cons]
    rw [hg_, hz_ (dgt b), length_take]
    have : min j (l.takeWhile bf_ ++ List.replicate 6 (48 : UInt8)).length = j := by
     simp only [List.length_append, length_replicate]; omega
    rw [this]
    simp only [g4_]
    omega
  ·have : (([] : List UInt8) ++ List.replicate 6 48).take j = List.replicate j 48 := by
    simp only [nil_append, take_replicate]; congr 1; omega
   rw [this, j8_]; simp
def a7_ (l : List UInt8) : List UInt8 := l.dropWhile cm_
def cU_ (l : List UInt8) : Bool := (l.takeWhile cm_).count 45 % 2 == 1
def ky_ (r : List UInt8) : List UInt8 := r.takeWhile bf_
def bT_ (r : List UInt8) : List UInt8 :=
 match r.dropWhile bf_ with
 | 46 :: t => t.takeWhile bf_
 | _ => []
def six (f : List UInt8) : List UInt8 := (f ++ List.replicate 6 48).take 6
def ee_ (l : List UInt8) : Nat := min (cq_ 0 (ky_ (a7_ l)) * 1000000 + cq_ 0 (six (bT_ (a7_ l)))) 999999999999999999
def bD_ (l : List UInt8) : Int := if cU_ l then -(ee_ l : Int) else ee_ l
theorem iq_ (l : List UInt8) : ee_ l ≤ 999999999999999999 := Nat.min_le_right _ _
theorem ht_ (l : List UInt8) : -999999999999999999 ≤ bD_ l ∧ bD_ l ≤ 999999999999999999 := by
 have := iq_ l
 unfold bD_
 split <;> omega
theorem h4_ (l : List UInt8) : ∀ b ∈ l.takeWhile bf_, dgt b ≤ 9 := fun b hb => uX_ (by
 induction l with
 | nil => simp at hb
 | cons x l ih =>
  rw [takeWhile_cons] at hb
  split at hb
  ·rcases mem_cons.1 hb with e | e
   ·subst e; assumption
   ·exact ih e
  ·simp at hb)
theorem jr_ (r : List UInt8) : ∀ b ∈ bT_ r, dgt b ≤ 9 := by
 unfold bT_
 split
 ·exact h4_ _
 ·simp
theorem nm_ {f : List UInt8} (h : ∀ b ∈ f, dgt b ≤ 9) : ∀ b ∈ six f, dgt b ≤ 9 := by
 intro b hb
 have := mem_of_mem_take hb
 rcases mem_append.1 this with q | q
 ·exact h b q
 ·rw [eq_of_mem_replicate q]; decide
theorem hQ_ (f : List UInt8) : (six f).length = 6 := by simp [six]
theorem pH_ (l : List UInt8) : ea_ 0 (ky_ (a7_ l) ++ six (bT_ (a7_ l))) = ee_ l := by
 rw [kO_ _ _ (by omega), mU_, hz_ (cq_ 0 _), hQ_]
 ·rfl
 ·intro b hb
  rcases mem_append.1 hb with q | q
  ·exact h4_ _ b q
  ·exact nm_ (jr_ _) b q
theorem p3_ (l : List UInt8) : min (min (cA_ 0 (a7_ l) * 1000000) 1000000000000000000 + cq_ 0 (six (bT_ (a7_ l)))) 999999999999999999 = ee_ l := by
 have h1 := jC_ (a7_ l) 0
 rw [Nat.zero_min] at h1
 have h2 := ng_ _ (nm_ (jr_ (a7_ l)))
 rw [hQ_] at h2
 unfold ee_ ky_
 rw [h1]
 omega
def bu_ (u : Nat) : List UInt8 := if u = 0 then [] else decDigits u
def dV_ (l : List UInt8) : List UInt8 := (l.reverse.dropWhile fun b => b == 48).reverse
def hM_ (r : Nat) : List UInt8 := if r = 0 then [] else 46 :: dV_ ((decDigits (1000000 + r)).drop 1)
def cb_ (u : Nat) : List UInt8 := if u = 0 then [48] else bu_ (u / 1000000) ++ hM_ (u % 1000000)
def bM_ (n : Int) : List UInt8 := if n < 0 then 45 :: cb_ n.natAbs else cb_ n.natAbs
theorem it_ (u : Nat) : decDigits u ≠ [] := by
 rw [decDigits]; split <;> simp
theorem fE_ : ∀ (k u : Nat), u < 10 ^ (k + 1) → nDigits u ≤ k + 1
 | 0, u, h => by rw [Go.Lib.nDigits_small (by simpa using h)]; omega
 | k + 1, u, h => by
  by_cases h1 : u < 10
  ·rw [Go.Lib.nDigits_small h1]; omega
  ·rw [Go.Lib.nDigits_big h1]
   have := fE_ k (u / 10) (by rw [Nat.pow_succ] at h; omega)
   omega
theorem dO_ (l : List UInt8) : (dV_ l).length ≤ l.length := by
 unfold dV_
 rw [length_reverse]
 have := (dropWhile_sublist (l := l.reverse) (fun b => b == 48)).length_le
 rw [length_reverse] at this
 exact this
theorem mm_ {r : Nat} (h : r < 1000000) : (hM_ r).length ≤ 7 := by
 unfold hM_
 split
 ·simp
 ·have h1 := dO_ ((decDigits (1000000 + r)).drop 1)
  rw [length_drop, Go.Lib.decDigits_length, Go.Lib.nDigits_unique 6 (1000000 + r) (by omega) (by omega)] at h1
  rw [List.length_cons]; omega
theorem g8_ {u : Nat} (h : u ≤ 999999999999999999) : (cb_ u).length ≤ 19 := by
 unfold cb_
 split
 ·simp
 ·rw [List.length_append]
  have h1 := mm_ (r := u % 1000000) (by omega)
  have h2 : (bu_ (u / 1000000)).length ≤ 12 := by
   unfold bu_
   split
   ·simp
   ·rw [Go.Lib.decDigits_length]; exact fE_ 11 _ (by omega)
  omega
theorem kE_ {n : Int} (h1 : -999999999999999999 ≤ n) (h2 : n ≤ 999999999999999999) : (bM_ n).length ≤ 20 := by
 have := g8_ (u := n.natAbs) (by omega)
 unfold bM_
 split
 ·rw [List.length_cons]; omega
 ·omega
theorem nL_ (u : Nat) : cb_ u ≠ [] := by
 unfold cb_
 split
 ·simp
 ·intro h
  have h1 := (append_eq_nil_iff.1 h).1
  have h2 := (append_eq_nil_iff.1 h).2
  have e1 : u / 1000000 = 0 := by
   unfold bu_ at h1
   split at h1
   ·assumption
   ·exact absurd h1 (it_ _)
  have e2 : u % 1000000 = 0 := by
   unfold hM_ at h2
   split at h2
   ·assumption
   ·simp at h2
  omega
theorem ob_ (n : Int) : bM_ n ≠ [] := by
 unfold bM_
 split
 ·simp
 ·exact nL_ _
def ch_ (l : List UInt8) : Bool := decide (bM_ (bD_ l) = l)
theorem nW_ (l : List UInt8) : (decide (l ≠ []) && decide (l.length ≤ 21) && decide (bM_ (bD_ l) = l)) = ch_ l := by
 unfold ch_
 by_cases h : bM_ (bD_ l) = l
 ·have h1 := ob_ (bD_ l)
  have h2 := kE_ (ht_ l).1 (ht_ l).2
  rw [h] at h1 h2
  have h3 : l.length ≤ 21 := by omega
  simp [h, h1, h3]
 ·simp [h]
theorem oD_ {a b : List UInt8} (ha : ch_ a = true) (hb : ch_ b = true) (h : bD_ a = bD_ b) : a = b := by
 rw [← of_decide_eq_true ha, ← of_decide_eq_true hb, h]
theorem pl_ {r : Nat} (h0 : r ≠ 0) (h : r < 1000000) : ∃ b ∈ (decDigits (1000000 + r)).drop 1, b ≠ 48 := by
 have hn : nDigits (1000000 + r) = 7 := Go.Lib.nDigits_unique 6 (1000000 + r) (by omega) (by omega)
 have hd : (decDigits (1000000 + r)).drop 1 = [Go.Lib.dg (1000000 + r) 5, Go.Lib.dg (1000000 + r) 4, Go.Lib.dg (1000000 + r) 3, Go.Lib.dg (1000000 + r) 2, Go.Lib.dg (1000000 + r) 1, Go.Lib.dg (1000000 + r) 0] := by
  rw [Go.Lib.decDigits_eq, hn]; rfl
 have key : ∀ j, Go.Lib.dg (1000000 + r) j = 48 → (1000000 + r) / 10 ^ j % 10 = 0 := by
  intro j hj
  have := congrArg UInt8.toNat hj
  simp only [Go.Lib.dg] at this
  rw [UInt8.toNat_ofNat'] at this
  have h2 : (48 : UInt8).toNat = 48 := rfl
  rw [h2] at this
  omega
 rw [hd]
 apply Classical.byContradiction
 intro hc
 have hall : ∀ b ∈ [Go.Lib.dg (1000000 + r) 5, Go.Lib.dg (1000000 + r) 4, Go.Lib.dg (1000000 + r) 3, Go.Lib.dg (1000000 + r) 2, Go.Lib.dg (1000000 + r) 1, Go.Lib.dg (1000000 + r) 0], b = 48 := by
  intro b hb
  apply Classical.byContradiction
  intro hn
  exact hc ⟨b, hb, hn⟩
 have k5 := key 5 (hall _ (by simp))
 have k4 := key 4 (hall _ (by simp))
 have k3 := key 3 (hall _ (by simp))
 have k2 := key 2 (hall _ (by simp))
 have k1 := key 1 (hall _ (by simp))
 have k0 := key 0 (hall _ (by simp))
 simp only [Nat.reducePow] at k5 k4 k3 k2 k1 k0
 omega
end Go.AW
