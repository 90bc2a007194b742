/-
 Plain numbers of texts: the number that a text begins with, the one text of a number, and the ways in which both programs reckon them. Nothing of any program.
-/
import Derived.Lib.ItoaNum
namespace Go.AW
open List
open Go.Lib (decDigits nDigits itoa)
def ck_ (b : UInt8) : Bool := b == 43 || b == 45
def bc_ (b : UInt8) : Bool := decide (48 ≤ b.toNat) && decide (b.toNat ≤ 57)
def dgt (b : UInt8) : Nat := b.toNat - 48
def cm_ (acc : Nat) (l : List UInt8) : Nat := l.foldl (fun a b => 10 * a + dgt b) acc
theorem dP_ (acc : Nat) : cm_ acc [] = acc := by unfold cm_; rw [foldl_nil]
theorem dR_ (acc : Nat) (b : UInt8) (l : List UInt8) : cm_ acc (b :: l) = cm_ (10 * acc + dgt b) l := by unfold cm_; rw [foldl_cons]
theorem hk_ (b : UInt8) (l : List UInt8) : cm_ 0 (b :: l) = cm_ (dgt b) l := by rw [dR_, Nat.mul_zero, Nat.zero_add]
theorem np_ (acc : Nat) (a b : List UInt8) : cm_ acc (a ++ b) = cm_ (cm_ acc a) b := by
 induction a generalizing acc with
 | nil => rw [nil_append, dP_]
 | cons x a ih => rw [cons_append, dR_, dR_, ih]
theorem hx_ (acc : Nat) (l : List UInt8) : cm_ acc l = acc * 10 ^ l.length + cm_ 0 l := by
 induction l generalizing acc with
 | nil => rw [List.length_nil, Nat.pow_zero, Nat.mul_one, dP_, dP_]; rfl
 | cons b l ih =>
  rw [dR_, hk_, ih (10 * acc + dgt b), ih (dgt b), List.length_cons, Nat.pow_succ, Nat.add_mul, Nat.mul_comm 10 acc, Nat.mul_assoc, Nat.mul_comm 10, Nat.add_assoc]
theorem sy_ (acc : Nat) (l : List UInt8) : acc ≤ cm_ acc l := by
 rw [hx_]
 have : 1 ≤ 10 ^ l.length := Nat.one_le_pow _ _ (by decide)
 have := Nat.mul_le_mul_left acc this
 omega
theorem uG_ {b : UInt8} (h : bc_ b = true) : dgt b ≤ 9 := by
 simp only [bc_, Bool.and_eq_true, decide_eq_true_eq] at h
 unfold dgt; omega
theorem nS_ : ∀ (l : List UInt8), (∀ b ∈ l, dgt b ≤ 9) → cm_ 0 l < 10 ^ l.length
 | [], _ => by rw [List.length_nil, Nat.pow_zero, dP_]; exact Nat.zero_lt_one
 | b :: l, h => by
  have h2 := nS_ l (fun x hx => h x (by simp [hx]))
  have h3 := h b (by simp)
  rw [hk_, hx_, List.length_cons, Nat.pow_succ]
  generalize 10 ^ l.length = p at *
  have : dgt b * p ≤ 9 * p := Nat.mul_le_mul_right _ h3
  omega
def eg_ (n : Nat) : List UInt8 → Nat
 | [] => n
 | c :: cs => if (999999999999999999 - dgt c) / 10 < n then 999999999999999999 else eg_ (10 * n + dgt c) cs
theorem kW_ : ∀ (l : List UInt8) (n : Nat), n ≤ 999999999999999999 → (∀ b ∈ l, dgt b ≤ 9) → eg_ n l = min (cm_ n l) 999999999999999999
 | [], n, h, _ => by rw [dP_]; show n = _; omega
 | c :: cs, n, h, hd => by
  have h3 := hd c (by simp)
  rw [dR_]
  show (if (999999999999999999 - dgt c) / 10 < n then 999999999999999999 else eg_ (10 * n + dgt c) cs) = _
  split
  ·have := sy_ (10 * n + dgt c) cs
   omega
  ·exact kW_ cs _ (by omega) (fun b hb => hd b (by simp [hb]))
def cy_ (n : Nat) : List UInt8 → Nat
 | [] => n
 | b :: bs => if bc_ b then cy_ (min (10 * n + dgt b) 1000000000000) bs else n
theorem jJ_ : ∀ (l : List UInt8) (n : Nat), cy_ (min n 1000000000000) l = min (cm_ n (l.takeWhile bc_)) 1000000000000
 | [], n => by rw [takeWhile_nil, dP_]; rfl
 | b :: l, n => by
  simp only [cy_, takeWhile_cons]
  split
  ·have e : min (10 * min n 1000000000000 + dgt b) 1000000000000 = min (10 * n + dgt b) 1000000000000 := by omega
   rw [e, jJ_ l, dR_]
  ·rw [dP_]
def dd_ (n unit : Nat) : List UInt8 → Nat
 | [] => n
 | b :: bs => if bc_ b then dd_ (n + dgt b * unit) (unit / 10) bs else n
def g1_ : Nat → Nat
 | 0 => 0
 | j + 1 => 10 ^ j
theorem n6_ (j : Nat) : g1_ (j + 1) / 10 = g1_ j := by
 cases j with
 | zero => rfl
 | succ j => simp only [g1_, Nat.pow_succ]; omega
theorem jQ_ (acc n : Nat) : cm_ acc (List.replicate n 48) = acc * 10 ^ n := by
 induction n generalizing acc with
 | zero => rw [replicate_zero, dP_, Nat.pow_zero, Nat.mul_one]
 | succ n ih =>
  have : dgt 48 = 0 := rfl
  rw [replicate_succ, dR_, ih, this, Nat.add_zero, Nat.pow_succ, Nat.mul_comm 10 acc, Nat.mul_assoc, Nat.mul_comm 10]
theorem g9_ : ∀ (l : List UInt8) (n j : Nat), j ≤ 6 → dd_ n (g1_ j) l = n + cm_ 0 ((l.takeWhile bc_ ++ List.replicate 6 48).take j)
 | [], n, j, hj => by
  have : (([] : List UInt8).takeWhile bc_ ++ List.replicate 6 48).take j = List.replicate j 48 := by
   simp only [takeWhile_nil, nil_append, take_replicate]; congr 1; omega
  rw [this, jQ_]; simp [dd_]
 | b :: l, n, j, hj => by
  simp only [dd_, takeWhile_cons]
  split
  ·cases j with
   | zero =>
    have e : g1_ 0 = 0 := rfl
    rw [e, Nat.mul_zero, Nat.add_zero, Nat.zero_div]
    have := g9_ l n 0 (by omega)
    rw [e] at this
    rw [this]; simp
   | succ j =>
    rw [n6_, g9_ l _ j (by omega), cons_append, take_succ_cons]
    rw [hk_, hx_ (dgt b), length_take]
    have : min j (l.takeWhile bc_ ++ List.replicate 6 (48 : UInt8)).length = j := by
     simp only [List.length_append, length_replicate]; omega
    rw [this]
    simp only [g1_]
    omega
  ·have : (([] : List UInt8) ++ List.replicate 6 48).take j = List.replicate j 48 := by
    simp only [nil_append, take_replicate]; congr 1; omega
   rw [this, jQ_]; simp
def a7_ (l : List UInt8) : List UInt8 := l.dropWhile ck_
def cL_ (l : List UInt8) : Bool := (l.takeWhile ck_).count 45 % 2 == 1
def ks_ (r : List UInt8) : List UInt8 := r.takeWhile bc_
def bS_ (r : List UInt8) : List UInt8 :=
 match r.dropWhile bc_ with
 | 46 :: t => t.takeWhile bc_
 | _ => []
def six (f : List UInt8) : List UInt8 := (f ++ List.replicate 6 48).take 6
def ei_ (l : List UInt8) : Nat := min (cm_ 0 (ks_ (a7_ l)) * 1000000 + cm_ 0 (six (bS_ (a7_ l)))) 999999999999999999
def bz_ (l : List UInt8) : Int := if cL_ l then -(ei_ l : Int) else ei_ l
theorem ib_ (l : List UInt8) : ei_ l ≤ 999999999999999999 := Nat.min_le_right _ _
theorem dn_ (l : List UInt8) : -999999999999999999 ≤ bz_ l ∧ bz_ l ≤ 999999999999999999 := by
 have := ib_ l
 unfold bz_
 split <;> omega
theorem hM_ (l : List UInt8) : ∀ b ∈ l.takeWhile bc_, dgt b ≤ 9 := fun b hb => uG_ (by
 induction l with
 | nil => simp at hb
 | cons x l ih =>
  rw [takeWhile_cons] at hb
  split at hb
  ·rcases mem_cons.1 hb with e | e
   ·subst e; assumption
   ·exact ih e
  ·simp at hb)
theorem jX_ (r : List UInt8) : ∀ b ∈ bS_ r, dgt b ≤ 9 := by
 unfold bS_
 split
 ·exact hM_ _
 ·simp
theorem nV_ {f : List UInt8} (h : ∀ b ∈ f, dgt b ≤ 9) : ∀ b ∈ six f, dgt b ≤ 9 := by
 intro b hb
 have := mem_of_mem_take hb
 rcases mem_append.1 this with q | q
 ·exact h b q
 ·rw [eq_of_mem_replicate q]; decide
theorem hv_ (f : List UInt8) : (six f).length = 6 := by simp [six]
theorem qs_ (l : List UInt8) : eg_ 0 (ks_ (a7_ l) ++ six (bS_ (a7_ l))) = ei_ l := by
 rw [kW_ _ _ (by omega), np_, hx_ (cm_ 0 _), hv_]
 ·rfl
 ·intro b hb
  rcases mem_append.1 hb with q | q
  ·exact hM_ _ b q
  ·exact nV_ (jX_ _) b q
theorem ro_ (l : List UInt8) : min (min (cy_ 0 (a7_ l) * 1000000) 1000000000000000000 + cm_ 0 (six (bS_ (a7_ l)))) 999999999999999999 = ei_ l := by
 have h1 := jJ_ (a7_ l) 0
 rw [Nat.zero_min] at h1
 have h2 := nS_ _ (nV_ (jX_ (a7_ l)))
 rw [hv_] at h2
 unfold ei_ ks_
 rw [h1]
 omega
def br_ (u : Nat) : List UInt8 := if u = 0 then [] else decDigits u
def ea_ (l : List UInt8) : List UInt8 := (l.reverse.dropWhile fun b => b == 48).reverse
def hd_ (r : Nat) : List UInt8 := if r = 0 then [] else 46 :: ea_ ((decDigits (1000000 + r)).drop 1)
def cb_ (u : Nat) : List UInt8 := if u = 0 then [48] else br_ (u / 1000000) ++ hd_ (u % 1000000)
def bm_ (n : Int) : List UInt8 := if n < 0 then 45 :: cb_ n.natAbs else cb_ n.natAbs
theorem h4_ (u : Nat) : decDigits u ≠ [] := by
 rw [decDigits]; split <;> simp
theorem fL_ : ∀ (k u : Nat), u < 10 ^ (k + 1) → nDigits u ≤ k + 1
 | 0, u, h => by rw [Go.Lib.nDigits_small (by simpa using h)]; omega
 | k + 1, u, h => by
  by_cases h1 : u < 10
  ·rw [Go.Lib.nDigits_small h1]; omega
  ·rw [Go.Lib.nDigits_big h1]
   have := fL_ k (u / 10) (by rw [Nat.pow_succ] at h; omega)
   omega
theorem dO_ (l : List UInt8) : (ea_ l).length ≤ l.length := by
 unfold ea_
 rw [length_reverse]
 have := (dropWhile_sublist (l := l.reverse) (fun b => b == 48)).length_le
 rw [length_reverse] at this
 exact this
theorem mF_ {r : Nat} (h : r < 1000000) : (hd_ r).length ≤ 7 := by
 unfold hd_
 split
 ·simp
 ·have h1 := dO_ ((decDigits (1000000 + r)).drop 1)
  rw [length_drop, Go.Lib.decDigits_length, Go.Lib.nDigits_unique 6 (1000000 + r) (by omega) (by omega)] at h1
  rw [List.length_cons]; omega
theorem g4_ {u : Nat} (h : u ≤ 999999999999999999) : (cb_ u).length ≤ 19 := by
 unfold cb_
 split
 ·simp
 ·rw [List.length_append]
  have h1 := mF_ (r := u % 1000000) (by omega)
  have h2 : (br_ (u / 1000000)).length ≤ 12 := by
   unfold br_
   split
   ·simp
   ·rw [Go.Lib.decDigits_length]; exact fL_ 11 _ (by omega)
  omega
theorem fe_ {n : Int} (h1 : -999999999999999999 ≤ n) (h2 : n ≤ 999999999999999999) : (bm_ n).length ≤ 20 := by
 have := g4_ (u := n.natAbs) (by omega)
 unfold bm_
 split
 ·rw [List.length_cons]; omega
 ·omega
theorem ot_ (u : Nat) : cb_ u ≠ [] := by
 unfold cb_
 split
 ·simp
 ·intro h
  have h1 := (append_eq_nil_iff.1 h).1
  have h2 := (append_eq_nil_iff.1 h).2
  have e1 : u / 1000000 = 0 := by
   unfold br_ at h1
   split at h1
   ·assumption
   ·exact absurd h1 (h4_ _)
  have e2 : u % 1000000 = 0 := by
   unfold hd_ at h2
   split at h2
   ·assumption
   ·simp at h2
  omega
theorem oX_ (n : Int) : bm_ n ≠ [] := by
 unfold bm_
 split
 ·simp
 ·exact ot_ _
def cP_ (l : List UInt8) : Bool := decide (bm_ (bz_ l) = l)
theorem o0_ (l : List UInt8) : (decide (l ≠ []) && decide (l.length ≤ 21) && decide (bm_ (bz_ l) = l)) = cP_ l := by
 unfold cP_
 by_cases h : bm_ (bz_ l) = l
 ·have h1 := oX_ (bz_ l)
  have h2 := fe_ (dn_ l).1 (dn_ l).2
  rw [h] at h1 h2
  have h3 : l.length ≤ 21 := by omega
  simp [h, h1, h3]
 ·simp [h]
theorem pA_ {r : Nat} (h0 : r ≠ 0) (h : r < 1000000) : ∃ b ∈ (decDigits (1000000 + r)).drop 1, b ≠ 48 := by
 have hn : nDigits (1000000 + r) = 7 := Go.Lib.nDigits_unique 6 (1000000 + r) (by omega) (by omega)
 have hd : (decDigits (1000000 + r)).drop 1 = [Go.Lib.dg (1000000 + r) 5, Go.Lib.dg (1000000 + r) 4, Go.Lib.dg (1000000 + r) 3, Go.Lib.dg (1000000 + r) 2, Go.Lib.dg (1000000 + r) 1, Go.Lib.dg (1000000 + r) 0] := by
  rw [Go.Lib.decDigits_eq, hn]; rfl
 have key : ∀ j, Go.Lib.dg (1000000 + r) j = 48 → (1000000 + r) / 10 ^ j % 10 = 0 := by
  intro j hj
  have := congrArg UInt8.toNat hj
  simp only [Go.Lib.dg] at this
  rw [UInt8.toNat_ofNat'] at this
  have h2 : (48 : UInt8).toNat = 48 := rfl
  rw [h2] at this
  omega
 rw [hd]
 apply Classical.byContradiction
 intro hc
 have hall : ∀ b ∈ [Go.Lib.dg (1000000 + r) 5, Go.Lib.dg (1000000 + r) 4, Go.Lib.dg (1000000 + r) 3, Go.Lib.dg (1000000 + r) 2, Go.Lib.dg (1000000 + r) 1, Go.Lib.dg (1000000 + r) 0], b = 48 := by
  intro b hb
  apply Classical.byContradiction
  intro hn
  exact hc ⟨b, hb, hn⟩
 have k5 := key 5 (hall _ (by simp))
 have k4 := key 4 (hall _ (by simp))
 have k3 := key 3 (hall _ (by simp))
 have k2 := key 2 (hall _ (by simp))
 have k1 := key 1 (hall _ (by simp))
 have k0 := key 0 (hall _ (by simp))
 simp only [Nat.reducePow] at k5 k4 k3 k2 k1 k0
 omega
end Go.AW
