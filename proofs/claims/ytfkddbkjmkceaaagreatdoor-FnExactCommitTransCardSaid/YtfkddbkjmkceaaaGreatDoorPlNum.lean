/-
 Plain numbers of texts: the number that a text begins with, the one text of a number, and the ways in which both programs reckon them. Nothing of any program.
-/
import Derived.Lib.ItoaNum
namespace Go.AW
open List
open Go.Lib (decDigits nDigits itoa)
def dm_ (b : UInt8) : Bool := b == 43 || b == 45
def bK_ (b : UInt8) : Bool := decide (48 ≤ b.toNat) && decide (b.toNat ≤ 57)
def dgt (b : UInt8) : Nat := b.toNat - 48
def do_ (acc : Nat) (l : List UInt8) : Nat := l.foldl (fun a b => 10 * a + dgt b) acc
theorem fr_ (acc : Nat) : do_ acc [] = acc := by unfold do_; rw [foldl_nil]
theorem fa_ (acc : Nat) (b : UInt8) (l : List UInt8) : do_ acc (b :: l) = do_ (10 * acc + dgt b) l := by unfold do_; rw [foldl_cons]
theorem ki_ (b : UInt8) (l : List UInt8) : do_ 0 (b :: l) = do_ (dgt b) l := by rw [fa_, Nat.mul_zero, Nat.zero_add]
theorem rz_ (acc : Nat) (a b : List UInt8) : do_ acc (a ++ b) = do_ (do_ acc a) b := by
 induction a generalizing acc with
 | nil => rw [nil_append, fr_]
 | cons x a ih => rw [cons_append, fa_, fa_, ih]
theorem j2_ (acc : Nat) (l : List UInt8) : do_ acc l = acc * 10 ^ l.length + do_ 0 l := by
 induction l generalizing acc with
 | nil => rw [List.length_nil, Nat.pow_zero, Nat.mul_one, fr_, fr_]; rfl
 | cons b l ih =>
  rw [fa_, ki_, ih (10 * acc + dgt b), ih (dgt b), List.length_cons, Nat.pow_succ, Nat.add_mul, Nat.mul_comm 10 acc, Nat.mul_assoc, Nat.mul_comm 10, Nat.add_assoc]
theorem yj_ (acc : Nat) (l : List UInt8) : acc ≤ do_ acc l := by
 rw [j2_]
 have : 1 ≤ 10 ^ l.length := Nat.one_le_pow _ _ (by decide)
 have := Nat.mul_le_mul_left acc this
 omega
theorem zV_ {b : UInt8} (h : bK_ b = true) : dgt b ≤ 9 := by
 simp only [bK_, Bool.and_eq_true, decide_eq_true_eq] at h
 unfold dgt; omega
theorem rL_ : ∀ (l : List UInt8), (∀ b ∈ l, dgt b ≤ 9) → do_ 0 l < 10 ^ l.length
 | [], _ => by rw [List.length_nil, Nat.pow_zero, fr_]; exact Nat.zero_lt_one
 | b :: l, h => by
  have h2 := rL_ l (fun x hx => h x (by simp [hx]))
  have h3 := h b (by simp)
  rw [ki_, j2_, List.length_cons, Nat.pow_succ]
  generalize 10 ^ l.length = p at *
  have : dgt b * p ≤ 9 * p := Nat.mul_le_mul_right _ h3
  omega
def fQ_ (n : Nat) : List UInt8 → Nat
 | [] => n
 | c :: cs => if (999999999999999999 - dgt c) / 10 < n then 999999999999999999 else fQ_ (10 * n + dgt c) cs
theorem oB_ : ∀ (l : List UInt8) (n : Nat), n ≤ 999999999999999999 → (∀ b ∈ l, dgt b ≤ 9) → fQ_ n l = min (do_ n l) 999999999999999999
 | [], n, h, _ => by rw [fr_]; show n = _; omega
 | c :: cs, n, h, hd => by
  have h3 := hd c (by simp)
  rw [fa_]
  show (if (999999999999999999 - dgt c) / 10 < n then 999999999999999999 else fQ_ (10 * n + dgt c) cs) = _
  split
  ·have := yj_ (10 * n + dgt c) cs
   omega
  ·exact oB_ cs _ (by omega) (fun b hb => hd b (by simp [hb]))
def dG_ (n : Nat) : List UInt8 → Nat
 | [] => n
 | b :: bs => if bK_ b then dG_ (min (10 * n + dgt b) 1000000000000) bs else n
theorem mF_ : ∀ (l : List UInt8) (n : Nat), dG_ (min n 1000000000000) l = min (do_ n (l.takeWhile bK_)) 1000000000000
 | [], n => by rw [takeWhile_nil, fr_]; rfl
 | b :: l, n => by
  simp only [dG_, takeWhile_cons]
  split
  ·have e : min (10 * min n 1000000000000 + dgt b) 1000000000000 = min (10 * n + dgt b) 1000000000000 := by omega
   rw [e, mF_ l, fa_]
  ·rw [fr_]
def ew_ (n unit : Nat) : List UInt8 → Nat
 | [] => n
 | b :: bs => if bK_ b then ew_ (n + dgt b * unit) (unit / 10) bs else n
def jD_ : Nat → Nat
 | 0 => 0
 | j + 1 => 10 ^ j
theorem sU_ (j : Nat) : jD_ (j + 1) / 10 = jD_ j := by
 cases j with
 | zero => rfl
 | succ j => simp only [jD_, Nat.pow_succ]; omega
theorem ng_ (acc n : Nat) : do_ acc (List.replicate n 48) = acc * 10 ^ n := by
 induction n generalizing acc with
 | zero => rw [replicate_zero, fr_, Nat.pow_zero, Nat.mul_one]
 | succ n ih =>
  have : dgt 48 = 0 := rfl
  rw [replicate_succ, fa_, ih, this, Nat.add_zero, Nat.pow_succ, Nat.mul_comm 10 acc, Nat.mul_assoc, Nat.mul_comm 10]
theorem ku_ : ∀ (l : List UInt8) (n j : Nat), j ≤ 6 → ew_ n (jD_ j) l = n + do_ 0 ((l.takeWhile bK_ ++ List.replicate 6 48).take j)
 | [], n, j, hj => by
  have : (([] : List UInt8).takeWhile bK_ ++ List.replicate 6 48).take j = List.replicate j 48 := by
   simp only [takeWhile_nil, nil_append, take_replicate]; congr 1; omega
  rw [this, ng_]; simp [ew_]
 | b :: l, n, j, hj => by
  simp only [ew_, takeWhile_cons]
  split
  ·cases j with
   | zero =>
    have e : jD_ 0 = 0 := rfl
    rw [e, Nat.mul_zero, Nat.add_zero, Nat.zero_div]
    have := ku_ l n 0 (by omega)
    rw [e] at this
    rw [this]; simp
   | succ j =>
    rw [sU_, ku_ l _ j (by omega), cons_append, take_succ_cons]
    rw [ki_, j2_ (dgt b), length_take]
    have : min j (l.takeWhile bK_ ++ List.replicate 6 (48 : UInt8)).length = j := by
     simp only [List.length_append, length_replicate]; omega
    rw [this]
    simp only [jD_]
    omega
  ·have : (([] : List UInt8) ++ List.replicate 6 48).take j = List.replicate j 48 := by
    simp only [nil_append, take_replicate]; congr 1; omega
   rw [this, ng_]; simp
def bA_ (l : List UInt8) : List UInt8 := l.dropWhile dm_
def d5_ (l : List UInt8) : Bool := (l.takeWhile dm_).count 45 % 2 == 1
def nC_ (r : List UInt8) : List UInt8 := r.takeWhile bK_
def cL_ (r : List UInt8) : List UInt8 :=
 match r.dropWhile bK_ with
 | 46 :: t => t.takeWhile bK_
 | _ => []
def six (f : List UInt8) : List UInt8 := (f ++ List.replicate 6 48).take 6
def fS_ (l : List UInt8) : Nat := min (do_ 0 (nC_ (bA_ l)) * 1000000 + do_ 0 (six (cL_ (bA_ l)))) 999999999999999999
def bX_ (l : List UInt8) : Int := if d5_ l then -(fS_ l : Int) else fS_ l
theorem lr_ (l : List UInt8) : fS_ l ≤ 999999999999999999 := Nat.min_le_right _ _
theorem eN_ (l : List UInt8) : -999999999999999999 ≤ bX_ l ∧ bX_ l ≤ 999999999999999999 := by
 have := lr_ l
 unfold bX_
 split <;> omega
theorem kE_ (l : List UInt8) : ∀ b ∈ l.takeWhile bK_, dgt b ≤ 9 := fun b hb => zV_ (by
 induction l with
 | nil => simp at hb
 | cons x l ih =>
  rw [takeWhile_cons] at hb
  split at hb
  ·rcases mem_cons.1 hb with e | e
   ·subst e; assumption
   ·exact ih e
  ·simp at hb)
theorem mW_ (r : List UInt8) : ∀ b ∈ cL_ r, dgt b ≤ 9 := by
 unfold cL_
 split
 ·exact kE_ _
 ·simp
theorem rK_ {f : List UInt8} (h : ∀ b ∈ f, dgt b ≤ 9) : ∀ b ∈ six f, dgt b ≤ 9 := by
 intro b hb
 have := mem_of_mem_take hb
 rcases mem_append.1 this with q | q
 ·exact h b q
 ·rw [eq_of_mem_replicate q]; decide
theorem jY_ (f : List UInt8) : (six f).length = 6 := by simp [six]
theorem vj_ (l : List UInt8) : fQ_ 0 (nC_ (bA_ l) ++ six (cL_ (bA_ l))) = fS_ l := by
 rw [oB_ _ _ (by omega), rz_, j2_ (do_ 0 _), jY_]
 ·rfl
 ·intro b hb
  rcases mem_append.1 hb with q | q
  ·exact kE_ _ b q
  ·exact rK_ (mW_ _) b q
theorem vg_ (l : List UInt8) : min (min (dG_ 0 (bA_ l) * 1000000) 1000000000000000000 + do_ 0 (six (cL_ (bA_ l)))) 999999999999999999 = fS_ l := by
 have h1 := mF_ (bA_ l) 0
 rw [Nat.zero_min] at h1
 have h2 := rL_ _ (rK_ (mW_ (bA_ l)))
 rw [jY_] at h2
 unfold fS_ nC_
 rw [h1]
 omega
def cg_ (u : Nat) : List UInt8 := if u = 0 then [] else decDigits u
def fE_ (l : List UInt8) : List UInt8 := (l.reverse.dropWhile fun b => b == 48).reverse
def kc_ (r : Nat) : List UInt8 := if r = 0 then [] else 46 :: fE_ ((decDigits (1000000 + r)).drop 1)
def dc_ (u : Nat) : List UInt8 := if u = 0 then [48] else cg_ (u / 1000000) ++ kc_ (u % 1000000)
def b8_ (n : Int) : List UInt8 := if n < 0 then 45 :: dc_ n.natAbs else dc_ n.natAbs
theorem li_ (u : Nat) : decDigits u ≠ [] := by
 rw [decDigits]; split <;> simp
theorem hV_ : ∀ (k u : Nat), u < 10 ^ (k + 1) → nDigits u ≤ k + 1
 | 0, u, h => by rw [Go.Lib.nDigits_small (by simpa using h)]; omega
 | k + 1, u, h => by
  by_cases h1 : u < 10
  ·rw [Go.Lib.nDigits_small h1]; omega
  ·rw [Go.Lib.nDigits_big h1]
   have := hV_ k (u / 10) (by rw [Nat.pow_succ] at h; omega)
   omega
theorem fp_ (l : List UInt8) : (fE_ l).length ≤ l.length := by
 unfold fE_
 rw [length_reverse]
 have := (dropWhile_sublist (l := l.reverse) (fun b => b == 48)).length_le
 rw [length_reverse] at this
 exact this
theorem qs_ {r : Nat} (h : r < 1000000) : (kc_ r).length ≤ 7 := by
 unfold kc_
 split
 ·simp
 ·have h1 := fp_ ((decDigits (1000000 + r)).drop 1)
  rw [length_drop, Go.Lib.decDigits_length, Go.Lib.nDigits_unique 6 (1000000 + r) (by omega) (by omega)] at h1
  rw [List.length_cons]; omega
theorem jI_ {u : Nat} (h : u ≤ 999999999999999999) : (dc_ u).length ≤ 19 := by
 unfold dc_
 split
 ·simp
 ·rw [List.length_append]
  have h1 := qs_ (r := u % 1000000) (by omega)
  have h2 : (cg_ (u / 1000000)).length ≤ 12 := by
   unfold cg_
   split
   ·simp
   ·rw [Go.Lib.decDigits_length]; exact hV_ 11 _ (by omega)
  omega
theorem g0_ {n : Int} (h1 : -999999999999999999 ≤ n) (h2 : n ≤ 999999999999999999) : (b8_ n).length ≤ 20 := by
 have := jI_ (u := n.natAbs) (by omega)
 unfold b8_
 split
 ·rw [List.length_cons]; omega
 ·omega
theorem tr_ (u : Nat) : dc_ u ≠ [] := by
 unfold dc_
 split
 ·simp
 ·intro h
  have h1 := (append_eq_nil_iff.1 h).1
  have h2 := (append_eq_nil_iff.1 h).2
  have e1 : u / 1000000 = 0 := by
   unfold cg_ at h1
   split at h1
   ·assumption
   ·exact absurd h1 (li_ _)
  have e2 : u % 1000000 = 0 := by
   unfold kc_ at h2
   split at h2
   ·assumption
   ·simp at h2
  omega
theorem sk_ (n : Int) : b8_ n ≠ [] := by
 unfold b8_
 split
 ·simp
 ·exact tr_ _
def b7_ (l : List UInt8) : Bool := decide (b8_ (bX_ l) = l)
theorem rZ_ (l : List UInt8) : (decide (l ≠ []) && decide (l.length ≤ 21) && decide (b8_ (bX_ l) = l)) = b7_ l := by
 unfold b7_
 by_cases h : b8_ (bX_ l) = l
 ·have h1 := sk_ (bX_ l)
  have h2 := g0_ (eN_ l).1 (eN_ l).2
  rw [h] at h1 h2
  have h3 : l.length ≤ 21 := by omega
  simp [h, h1, h3]
 ·simp [h]
theorem tX_ {a b : List UInt8} (ha : b7_ a = true) (hb : b7_ b = true) (h : bX_ a = bX_ b) : a = b := by
 rw [← of_decide_eq_true ha, ← of_decide_eq_true hb, h]
theorem ty_ {r : Nat} (h0 : r ≠ 0) (h : r < 1000000) : ∃ b ∈ (decDigits (1000000 + r)).drop 1, b ≠ 48 := by
 have hn : nDigits (1000000 + r) = 7 := Go.Lib.nDigits_unique 6 (1000000 + r) (by omega) (by omega)
 have hd : (decDigits (1000000 + r)).drop 1 = [Go.Lib.dg (1000000 + r) 5, Go.Lib.dg (1000000 + r) 4, Go.Lib.dg (1000000 + r) 3, Go.Lib.dg (1000000 + r) 2, Go.Lib.dg (1000000 + r) 1, Go.Lib.dg (1000000 + r) 0] := by
  rw [Go.Lib.decDigits_eq, hn]; rfl
 have key : ∀ j, Go.Lib.dg (1000000 + r) j = 48 → (1000000 + r) / 10 ^ j % 10 = 0 := by
  intro j hj
  have := congrArg UInt8.toNat hj
  simp only [Go.Lib.dg] at this
  rw [UInt8.toNat_ofNat'] at this
  have h2 : (48 : UInt8).toNat = 48 := rfl
  rw [h2] at this
  omega
 rw [hd]
 apply Classical.byContradiction
 intro hc
 have hall : ∀ b ∈ [Go.Lib.dg (1000000 + r) 5, Go.Lib.dg (1000000 + r) 4, Go.Lib.dg (1000000 + r) 3, Go.Lib.dg (1000000 + r) 2, Go.Lib.dg (1000000 + r) 1, Go.Lib.dg (1000000 + r) 0], b = 48 := by
  intro b hb
  apply Classical.byContradiction
  intro hn
  exact hc ⟨b, hb, hn⟩
 have k5 := key 5 (hall _ (by simp))
 have k4 := key 4 (hall _ (by simp))
 have k3 := key 3 (hall _ (by simp))
 have k2 := key 2 (hall _ (by simp))
 have k1 := key 1 (hall _ (by simp))
 have k0 := key 0 (hall _ (by simp))
 simp only [Nat.reducePow] at k5 k4 k3 k2 k1 k0
 omega
end Go.AW
