/-
 Plain numbers of texts: the number that a text begins with, the one text of a number, and the ways in which both programs reckon them. Nothing of any program.
-/
import Derived.Lib.ItoaNum
namespace Go.AW
open List
open Go.Lib (decDigits nDigits itoa)
def dk_ (b : UInt8) : Bool := b == 43 || b == 45
def bA_ (b : UInt8) : Bool := decide (48 ≤ b.toNat) && decide (b.toNat ≤ 57)
def dgt (b : UInt8) : Nat := b.toNat - 48
def dm_ (acc : Nat) (l : List UInt8) : Nat := l.foldl (fun a b => 10 * a + dgt b) acc
theorem e1_ (acc : Nat) : dm_ acc [] = acc := by unfold dm_; rw [foldl_nil]
theorem fi_ (acc : Nat) (b : UInt8) (l : List UInt8) : dm_ acc (b :: l) = dm_ (10 * acc + dgt b) l := by unfold dm_; rw [foldl_cons]
theorem ju_ (b : UInt8) (l : List UInt8) : dm_ 0 (b :: l) = dm_ (dgt b) l := by rw [fi_, Nat.mul_zero, Nat.zero_add]
theorem qH_ (acc : Nat) (a b : List UInt8) : dm_ acc (a ++ b) = dm_ (dm_ acc a) b := by
 induction a generalizing acc with
 | nil => rw [nil_append, e1_]
 | cons x a ih => rw [cons_append, fi_, fi_, ih]
theorem jp_ (acc : Nat) (l : List UInt8) : dm_ acc l = acc * 10 ^ l.length + dm_ 0 l := by
 induction l generalizing acc with
 | nil => rw [List.length_nil, Nat.pow_zero, Nat.mul_one, e1_, e1_]; rfl
 | cons b l ih =>
  rw [fi_, ju_, ih (10 * acc + dgt b), ih (dgt b), List.length_cons, Nat.pow_succ, Nat.add_mul, Nat.mul_comm 10 acc, Nat.mul_assoc, Nat.mul_comm 10, Nat.add_assoc]
theorem yd_ (acc : Nat) (l : List UInt8) : acc ≤ dm_ acc l := by
 rw [jp_]
 have : 1 ≤ 10 ^ l.length := Nat.one_le_pow _ _ (by decide)
 have := Nat.mul_le_mul_left acc this
 omega
theorem BM_ {b : UInt8} (h : bA_ b = true) : dgt b ≤ 9 := by
 simp only [bA_, Bool.and_eq_true, decide_eq_true_eq] at h
 unfold dgt; omega
theorem rv_ : ∀ (l : List UInt8), (∀ b ∈ l, dgt b ≤ 9) → dm_ 0 l < 10 ^ l.length
 | [], _ => by rw [List.length_nil, Nat.pow_zero, e1_]; exact Nat.zero_lt_one
 | b :: l, h => by
  have h2 := rv_ l (fun x hx => h x (by simp [hx]))
  have h3 := h b (by simp)
  rw [ju_, jp_, List.length_cons, Nat.pow_succ]
  generalize 10 ^ l.length = p at *
  have : dgt b * p ≤ 9 * p := Nat.mul_le_mul_right _ h3
  omega
def fD_ (n : Nat) : List UInt8 → Nat
 | [] => n
 | c :: cs => if (999999999999999999 - dgt c) / 10 < n then 999999999999999999 else fD_ (10 * n + dgt c) cs
theorem ob_ : ∀ (l : List UInt8) (n : Nat), n ≤ 999999999999999999 → (∀ b ∈ l, dgt b ≤ 9) → fD_ n l = min (dm_ n l) 999999999999999999
 | [], n, h, _ => by rw [e1_]; show n = _; omega
 | c :: cs, n, h, hd => by
  have h3 := hd c (by simp)
  rw [fi_]
  show (if (999999999999999999 - dgt c) / 10 < n then 999999999999999999 else fD_ (10 * n + dgt c) cs) = _
  split
  ·have := yd_ (10 * n + dgt c) cs
   omega
  ·exact ob_ cs _ (by omega) (fun b hb => hd b (by simp [hb]))
def dG_ (n : Nat) : List UInt8 → Nat
 | [] => n
 | b :: bs => if bA_ b then dG_ (min (10 * n + dgt b) 1000000000000) bs else n
theorem mG_ : ∀ (l : List UInt8) (n : Nat), dG_ (min n 1000000000000) l = min (dm_ n (l.takeWhile bA_)) 1000000000000
 | [], n => by rw [takeWhile_nil, e1_]; rfl
 | b :: l, n => by
  simp only [dG_, takeWhile_cons]
  split
  ·have e : min (10 * min n 1000000000000 + dgt b) 1000000000000 = min (10 * n + dgt b) 1000000000000 := by omega
   rw [e, mG_ l, fi_]
  ·rw [e1_]
def ey_ (n unit : Nat) : List UInt8 → Nat
 | [] => n
 | b :: bs => if bA_ b then ey_ (n + dgt b * unit) (unit / 10) bs else n
def i3_ : Nat → Nat
 | 0 => 0
 | j + 1 => 10 ^ j
theorem sE_ (j : Nat) : i3_ (j + 1) / 10 = i3_ j := by
 cases j with
 | zero => rfl
 | succ j => simp only [i3_, Nat.pow_succ]; omega
theorem mR_ (acc n : Nat) : dm_ acc (List.replicate n 48) = acc * 10 ^ n := by
 induction n generalizing acc with
 | zero => rw [replicate_zero, e1_, Nat.pow_zero, Nat.mul_one]
 | succ n ih =>
  have : dgt 48 = 0 := rfl
  rw [replicate_succ, fi_, ih, this, Nat.add_zero, Nat.pow_succ, Nat.mul_comm 10 acc, Nat.mul_assoc, Nat.mul_comm 10]
theorem js_ : ∀ (l : List UInt8) (n j : Nat), j ≤ 6 → ey_ n (i3_ j) l = n + dm_ 0 ((l.takeWhile bA_ ++ List.replicate 6 48).take j)
 | [], n, j, hj => by
  have : (([] : List UInt8).takeWhile bA_ ++ List.replicate 6 48).take j = List.replicate j 48 := by
   simp only [takeWhile_nil, nil_append, take_replicate]; congr 1; omega
  rw [this, mR_]; simp [ey_]
 | b :: l, n, j, hj => by
  simp only [ey_, takeWhile_cons]
  split
  ·cases j with
   | zero =>
    have e : i3_ 0 = 0 := rfl
    rw [e, Nat.mul_zero, Nat.add_zero, Nat.zero_div]
    have := js_ l n 0 (by omega)
    rw [e] at this
    rw [this]; simp
   | succ j =>
    rw [sE_, js_ l _ j (by omega), cons_append, take_succ_cons]
    rw [ju_, jp_ (dgt b), length_take]
    have : min j (l.takeWhile bA_ ++ List.replicate 6 (48 : UInt8)).length = j := by
     simp only [List.length_append, length_replicate]; omega
    rw [this]
    simp only [i3_]
    omega
  ·have : (([] : List UInt8) ++ List.replicate 6 48).take j = List.replicate j 48 := by
    simp only [nil_append, take_replicate]; congr 1; omega
   rw [this, mR_]; simp
def bt_ (l : List UInt8) : List UInt8 := l.dropWhile dk_
def d5_ (l : List UInt8) : Bool := (l.takeWhile dk_).count 45 % 2 == 1
def nm_ (r : List UInt8) : List UInt8 := r.takeWhile bA_
def cM_ (r : List UInt8) : List UInt8 :=
 match r.dropWhile bA_ with
 | 46 :: t => t.takeWhile bA_
 | _ => []
def six (f : List UInt8) : List UInt8 := (f ++ List.replicate 6 48).take 6
def fI_ (l : List UInt8) : Nat := min (dm_ 0 (nm_ (bt_ l)) * 1000000 + dm_ 0 (six (cM_ (bt_ l)))) 999999999999999999
def bU_ (l : List UInt8) : Int := if d5_ l then -(fI_ l : Int) else fI_ l
theorem kL_ (l : List UInt8) : fI_ l ≤ 999999999999999999 := Nat.min_le_right _ _
theorem eG_ (l : List UInt8) : -999999999999999999 ≤ bU_ l ∧ bU_ l ≤ 999999999999999999 := by
 have := kL_ l
 unfold bU_
 split <;> omega
theorem j9_ (l : List UInt8) : ∀ b ∈ l.takeWhile bA_, dgt b ≤ 9 := fun b hb => BM_ (by
 induction l with
 | nil => simp at hb
 | cons x l ih =>
  rw [takeWhile_cons] at hb
  split at hb
  ·rcases mem_cons.1 hb with e | e
   ·subst e; assumption
   ·exact ih e
  ·simp at hb)
theorem mA_ (r : List UInt8) : ∀ b ∈ cM_ r, dgt b ≤ 9 := by
 unfold cM_
 split
 ·exact j9_ _
 ·simp
theorem rA_ {f : List UInt8} (h : ∀ b ∈ f, dgt b ≤ 9) : ∀ b ∈ six f, dgt b ≤ 9 := by
 intro b hb
 have := mem_of_mem_take hb
 rcases mem_append.1 this with q | q
 ·exact h b q
 ·rw [eq_of_mem_replicate q]; decide
theorem jQ_ (f : List UInt8) : (six f).length = 6 := by simp [six]
theorem u0_ (l : List UInt8) : fD_ 0 (nm_ (bt_ l) ++ six (cM_ (bt_ l))) = fI_ l := by
 rw [ob_ _ _ (by omega), qH_, jp_ (dm_ 0 _), jQ_]
 ·rfl
 ·intro b hb
  rcases mem_append.1 hb with q | q
  ·exact j9_ _ b q
  ·exact rA_ (mA_ _) b q
theorem vH_ (l : List UInt8) : min (min (dG_ 0 (bt_ l) * 1000000) 1000000000000000000 + dm_ 0 (six (cM_ (bt_ l)))) 999999999999999999 = fI_ l := by
 have h1 := mG_ (bt_ l) 0
 rw [Nat.zero_min] at h1
 have h2 := rv_ _ (rA_ (mA_ (bt_ l)))
 rw [jQ_] at h2
 unfold fI_ nm_
 rw [h1]
 omega
def ce_ (u : Nat) : List UInt8 := if u = 0 then [] else decDigits u
def ft_ (l : List UInt8) : List UInt8 := (l.reverse.dropWhile fun b => b == 48).reverse
def jr_ (r : Nat) : List UInt8 := if r = 0 then [] else 46 :: ft_ ((decDigits (1000000 + r)).drop 1)
def db_ (u : Nat) : List UInt8 := if u = 0 then [48] else ce_ (u / 1000000) ++ jr_ (u % 1000000)
def bZ_ (n : Int) : List UInt8 := if n < 0 then 45 :: db_ n.natAbs else db_ n.natAbs
theorem k8_ (u : Nat) : decDigits u ≠ [] := by
 rw [decDigits]; split <;> simp
theorem hF_ : ∀ (k u : Nat), u < 10 ^ (k + 1) → nDigits u ≤ k + 1
 | 0, u, h => by rw [Go.Lib.nDigits_small (by simpa using h)]; omega
 | k + 1, u, h => by
  by_cases h1 : u < 10
  ·rw [Go.Lib.nDigits_small h1]; omega
  ·rw [Go.Lib.nDigits_big h1]
   have := hF_ k (u / 10) (by rw [Nat.pow_succ] at h; omega)
   omega
theorem fg_ (l : List UInt8) : (ft_ l).length ≤ l.length := by
 unfold ft_
 rw [length_reverse]
 have := (dropWhile_sublist (l := l.reverse) (fun b => b == 48)).length_le
 rw [length_reverse] at this
 exact this
theorem o3_ {r : Nat} (h : r < 1000000) : (jr_ r).length ≤ 7 := by
 unfold jr_
 split
 ·simp
 ·have h1 := fg_ ((decDigits (1000000 + r)).drop 1)
  rw [length_drop, Go.Lib.decDigits_length, Go.Lib.nDigits_unique 6 (1000000 + r) (by omega) (by omega)] at h1
  rw [List.length_cons]; omega
theorem i5_ {u : Nat} (h : u ≤ 999999999999999999) : (db_ u).length ≤ 19 := by
 unfold db_
 split
 ·simp
 ·rw [List.length_append]
  have h1 := o3_ (r := u % 1000000) (by omega)
  have h2 : (ce_ (u / 1000000)).length ≤ 12 := by
   unfold ce_
   split
   ·simp
   ·rw [Go.Lib.decDigits_length]; exact hF_ 11 _ (by omega)
  omega
theorem gY_ {n : Int} (h1 : -999999999999999999 ≤ n) (h2 : n ≤ 999999999999999999) : (bZ_ n).length ≤ 20 := by
 have := i5_ (u := n.natAbs) (by omega)
 unfold bZ_
 split
 ·rw [List.length_cons]; omega
 ·omega
theorem sj_ (u : Nat) : db_ u ≠ [] := by
 unfold db_
 split
 ·simp
 ·intro h
  have h1 := (append_eq_nil_iff.1 h).1
  have h2 := (append_eq_nil_iff.1 h).2
  have e1 : u / 1000000 = 0 := by
   unfold ce_ at h1
   split at h1
   ·assumption
   ·exact absurd h1 (k8_ _)
  have e2 : u % 1000000 = 0 := by
   unfold jr_ at h2
   split at h2
   ·assumption
   ·simp at h2
  omega
theorem sM_ (n : Int) : bZ_ n ≠ [] := by
 unfold bZ_
 split
 ·simp
 ·exact sj_ _
def b1_ (l : List UInt8) : Bool := decide (bZ_ (bU_ l) = l)
theorem sA_ (l : List UInt8) : (decide (l ≠ []) && decide (l.length ≤ 21) && decide (bZ_ (bU_ l) = l)) = b1_ l := by
 unfold b1_
 by_cases h : bZ_ (bU_ l) = l
 ·have h1 := sM_ (bU_ l)
  have h2 := gY_ (eG_ l).1 (eG_ l).2
  rw [h] at h1 h2
  have h3 : l.length ≤ 21 := by omega
  simp [h, h1, h3]
 ·simp [h]
theorem tb_ {a b : List UInt8} (ha : b1_ a = true) (hb : b1_ b = true) (h : bU_ a = bU_ b) : a = b := by
 rw [← of_decide_eq_true ha, ← of_decide_eq_true hb, h]
theorem tX_ {r : Nat} (h0 : r ≠ 0) (h : r < 1000000) : ∃ b ∈ (decDigits (1000000 + r)).drop 1, b ≠ 48 := by
 have hn : nDigits (1000000 + r) = 7 := Go.Lib.nDigits_unique 6 (1000000 + r) (by omega) (by omega)
 have hd : (decDigits (1000000 + r)).drop 1 = [Go.Lib.dg (1000000 + r) 5, Go.Lib.dg (1000000 + r) 4, Go.Lib.dg (1000000 + r) 3, Go.Lib.dg (1000000 + r) 2, Go.Lib.dg (1000000 + r) 1, Go.Lib.dg (1000000 + r) 0] := by
  rw [Go.Lib.decDigits_eq, hn]; rfl
 have key : ∀ j, Go.Lib.dg (1000000 + r) j = 48 → (1000000 + r) / 10 ^ j % 10 = 0 := by
  intro j hj
  have := congrArg UInt8.toNat hj
  simp only [Go.Lib.dg] at this
  rw [UInt8.toNat_ofNat'] at this
  have h2 : (48 : UInt8).toNat = 48 := rfl
  rw [h2] at this
  omega
 rw [hd]
 apply Classical.byContradiction
 intro hc
 have hall : ∀ b ∈ [Go.Lib.dg (1000000 + r) 5, Go.Lib.dg (1000000 + r) 4, Go.Lib.dg (1000000 + r) 3, Go.Lib.dg (1000000 + r) 2, Go.Lib.dg (1000000 + r) 1, Go.Lib.dg (1000000 + r) 0], b = 48 := by
  intro b hb
  apply Classical.byContradiction
  intro hn
  exact hc ⟨b, hb, hn⟩
 have k5 := key 5 (hall _ (by simp))
 have k4 := key 4 (hall _ (by simp))
 have k3 := key 3 (hall _ (by simp))
 have k2 := key 2 (hall _ (by simp))
 have k1 := key 1 (hall _ (by simp))
 have k0 := key 0 (hall _ (by simp))
 simp only [Nat.reducePow] at k5 k4 k3 k2 k1 k0
 omega
end Go.AW
