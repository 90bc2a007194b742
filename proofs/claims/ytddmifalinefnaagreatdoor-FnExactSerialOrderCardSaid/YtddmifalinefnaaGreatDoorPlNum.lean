/-
 Plain numbers of texts: the number that a text begins with, the one text of a number, and the ways in which both programs reckon them. Nothing of any program.
-/
import Derived.Lib.ItoaNum
namespace Go.AW
open List
open Go.Lib (decDigits nDigits itoa)
def cA_ (b : UInt8) : Bool := b == 43 || b == 45
def bi_ (b : UInt8) : Bool := decide (48 ≤ b.toNat) && decide (b.toNat ≤ 57)
def dgt (b : UInt8) : Nat := b.toNat - 48
def cC_ (acc : Nat) (l : List UInt8) : Nat := l.foldl (fun a b => 10 * a + dgt b) acc
theorem d7_ (acc : Nat) : cC_ acc [] = acc := by unfold cC_; rw [foldl_nil]
theorem ed_ (acc : Nat) (b : UInt8) (l : List UInt8) : cC_ acc (b :: l) = cC_ (10 * acc + dgt b) l := by unfold cC_; rw [foldl_cons]
theorem h2_ (b : UInt8) (l : List UInt8) : cC_ 0 (b :: l) = cC_ (dgt b) l := by rw [ed_, Nat.mul_zero, Nat.zero_add]
theorem oy_ (acc : Nat) (a b : List UInt8) : cC_ acc (a ++ b) = cC_ (cC_ acc a) b := by
 induction a generalizing acc with
 | nil => rw [nil_append, d7_]
 | cons x a ih => rw [cons_append, ed_, ed_, ih]
theorem ia_ (acc : Nat) (l : List UInt8) : cC_ acc l = acc * 10 ^ l.length + cC_ 0 l := by
 induction l generalizing acc with
 | nil => rw [List.length_nil, Nat.pow_zero, Nat.mul_one, d7_, d7_]; rfl
 | cons b l ih =>
  rw [ed_, h2_, ih (10 * acc + dgt b), ih (dgt b), List.length_cons, Nat.pow_succ, Nat.add_mul, Nat.mul_comm 10 acc, Nat.mul_assoc, Nat.mul_comm 10, Nat.add_assoc]
theorem tF_ (acc : Nat) (l : List UInt8) : acc ≤ cC_ acc l := by
 rw [ia_]
 have : 1 ≤ 10 ^ l.length := Nat.one_le_pow _ _ (by decide)
 have := Nat.mul_le_mul_left acc this
 omega
theorem uG_ {b : UInt8} (h : bi_ b = true) : dgt b ≤ 9 := by
 simp only [bi_, Bool.and_eq_true, decide_eq_true_eq] at h
 unfold dgt; omega
theorem o2_ : ∀ (l : List UInt8), (∀ b ∈ l, dgt b ≤ 9) → cC_ 0 l < 10 ^ l.length
 | [], _ => by rw [List.length_nil, Nat.pow_zero, d7_]; exact Nat.zero_lt_one
 | b :: l, h => by
  have h2 := o2_ l (fun x hx => h x (by simp [hx]))
  have h3 := h b (by simp)
  rw [h2_, ia_, List.length_cons, Nat.pow_succ]
  generalize 10 ^ l.length = p at *
  have : dgt b * p ≤ 9 * p := Nat.mul_le_mul_right _ h3
  omega
def ex_ (n : Nat) : List UInt8 → Nat
 | [] => n
 | c :: cs => if (999999999999999999 - dgt c) / 10 < n then 999999999999999999 else ex_ (10 * n + dgt c) cs
theorem lX_ : ∀ (l : List UInt8) (n : Nat), n ≤ 999999999999999999 → (∀ b ∈ l, dgt b ≤ 9) → ex_ n l = min (cC_ n l) 999999999999999999
 | [], n, h, _ => by rw [d7_]; show n = _; omega
 | c :: cs, n, h, hd => by
  have h3 := hd c (by simp)
  rw [ed_]
  show (if (999999999999999999 - dgt c) / 10 < n then 999999999999999999 else ex_ (10 * n + dgt c) cs) = _
  split
  ·have := tF_ (10 * n + dgt c) cs
   omega
  ·exact lX_ cs _ (by omega) (fun b hb => hd b (by simp [hb]))
def cO_ (n : Nat) : List UInt8 → Nat
 | [] => n
 | b :: bs => if bi_ b then cO_ (min (10 * n + dgt b) 1000000000000) bs else n
theorem kq_ : ∀ (l : List UInt8) (n : Nat), cO_ (min n 1000000000000) l = min (cC_ n (l.takeWhile bi_)) 1000000000000
 | [], n => by rw [takeWhile_nil, d7_]; rfl
 | b :: l, n => by
  simp only [cO_, takeWhile_cons]
  split
  ·have e : min (10 * min n 1000000000000 + dgt b) 1000000000000 = min (10 * n + dgt b) 1000000000000 := by omega
   rw [e, kq_ l, ed_]
  ·rw [d7_]
def dy_ (n unit : Nat) : List UInt8 → Nat
 | [] => n
 | b :: bs => if bi_ b then dy_ (n + dgt b * unit) (unit / 10) bs else n
def hH_ : Nat → Nat
 | 0 => 0
 | j + 1 => 10 ^ j
theorem ql_ (j : Nat) : hH_ (j + 1) / 10 = hH_ j := by
 cases j with
 | zero => rfl
 | succ j => simp only [hH_, Nat.pow_succ]; omega
theorem kE_ (acc n : Nat) : cC_ acc (List.replicate n 48) = acc * 10 ^ n := by
 induction n generalizing acc with
 | zero => rw [replicate_zero, d7_, Nat.pow_zero, Nat.mul_one]
 | succ n ih =>
  have : dgt 48 = 0 := rfl
  rw [replicate_succ, ed_, ih, this, Nat.add_zero, Nat.pow_succ, Nat.mul_comm 10 acc, Nat.mul_assoc, Nat.mul_comm 10]
theorem ih_ : ∀ (l : List UInt8) (n j : Nat), j ≤ 6 → dy_ n (hH_ j) l = n + cC_ 0 ((l.takeWhile bi_ ++ List.replicate 6 48).take j)
 | [], n, j, hj => by
  have : (([] : List UInt8).takeWhile bi_ ++ List.replicate 6 48).take j = List.replicate j 48 := by
   simp only [takeWhile_nil, nil_append, take_replicate]; congr 1; omega
  rw [this, kE_]; simp [dy_]
 | b :: l, n, j, hj => by
  simp only [dy_, takeWhile_cons]
  split
  ·cases j with
   | zero =>
    have e : hH_ 0 = 0 := rfl
    rw [e, Nat.mul_zero, Nat.add_zero, Nat.zero_div]
    have := ih_ l n 0 (by omega)
    rw [e] at this
    rw [this]; simp
   | succ j =>
    rw [ql_, ih_ l _ j (by omega), cons_append, take_succ_cons]
    rw [h2_, ia_ (dgt b), length_take]
    have : min j (l.takeWhile bi_ ++ List.replicate 6 (48 : UInt8)).length = j := by
     simp only [List.length_append, length_replicate]; omega
    rw [this]
    simp only [hH_]
    omega
  ·have : (([] : List UInt8) ++ List.replicate 6 48).take j = List.replicate j 48 := by
    simp only [nil_append, take_replicate]; congr 1; omega
   rw [this, kE_]; simp
def a9_ (l : List UInt8) : List UInt8 := l.dropWhile cA_
def da_ (l : List UInt8) : Bool := (l.takeWhile cA_).count 45 % 2 == 1
def lE_ (r : List UInt8) : List UInt8 := r.takeWhile bi_
def b3_ (r : List UInt8) : List UInt8 :=
 match r.dropWhile bi_ with
 | 46 :: t => t.takeWhile bi_
 | _ => []
def six (f : List UInt8) : List UInt8 := (f ++ List.replicate 6 48).take 6
def ez_ (l : List UInt8) : Nat := min (cC_ 0 (lE_ (a9_ l)) * 1000000 + cC_ 0 (six (b3_ (a9_ l)))) 999999999999999999
def bJ_ (l : List UInt8) : Int := if da_ l then -(ez_ l : Int) else ez_ l
theorem iX_ (l : List UInt8) : ez_ l ≤ 999999999999999999 := Nat.min_le_right _ _
theorem dM_ (l : List UInt8) : -999999999999999999 ≤ bJ_ l ∧ bJ_ l ≤ 999999999999999999 := by
 have := iX_ l
 unfold bJ_
 split <;> omega
theorem iv_ (l : List UInt8) : ∀ b ∈ l.takeWhile bi_, dgt b ≤ 9 := fun b hb => uG_ (by
 induction l with
 | nil => simp at hb
 | cons x l ih =>
  rw [takeWhile_cons] at hb
  split at hb
  ·rcases mem_cons.1 hb with e | e
   ·subst e; assumption
   ·exact ih e
  ·simp at hb)
theorem kh_ (r : List UInt8) : ∀ b ∈ b3_ r, dgt b ≤ 9 := by
 unfold b3_
 split
 ·exact iv_ _
 ·simp
theorem oY_ {f : List UInt8} (h : ∀ b ∈ f, dgt b ≤ 9) : ∀ b ∈ six f, dgt b ≤ 9 := by
 intro b hb
 have := mem_of_mem_take hb
 rcases mem_append.1 this with q | q
 ·exact h b q
 ·rw [eq_of_mem_replicate q]; decide
theorem id_ (f : List UInt8) : (six f).length = 6 := by simp [six]
theorem rw_ (l : List UInt8) : ex_ 0 (lE_ (a9_ l) ++ six (b3_ (a9_ l))) = ez_ l := by
 rw [lX_ _ _ (by omega), oy_, ia_ (cC_ 0 _), id_]
 ·rfl
 ·intro b hb
  rcases mem_append.1 hb with q | q
  ·exact iv_ _ b q
  ·exact oY_ (kh_ _) b q
theorem r3_ (l : List UInt8) : min (min (cO_ 0 (a9_ l) * 1000000) 1000000000000000000 + cC_ 0 (six (b3_ (a9_ l)))) 999999999999999999 = ez_ l := by
 have h1 := kq_ (a9_ l) 0
 rw [Nat.zero_min] at h1
 have h2 := o2_ _ (oY_ (kh_ (a9_ l)))
 rw [id_] at h2
 unfold ez_ lE_
 rw [h1]
 omega
def bB_ (u : Nat) : List UInt8 := if u = 0 then [] else decDigits u
def ew_ (l : List UInt8) : List UInt8 := (l.reverse.dropWhile fun b => b == 48).reverse
def hW_ (r : Nat) : List UInt8 := if r = 0 then [] else 46 :: ew_ ((decDigits (1000000 + r)).drop 1)
def cr_ (u : Nat) : List UInt8 := if u = 0 then [48] else bB_ (u / 1000000) ++ hW_ (u % 1000000)
def bw_ (n : Int) : List UInt8 := if n < 0 then 45 :: cr_ n.natAbs else cr_ n.natAbs
theorem i9_ (u : Nat) : decDigits u ≠ [] := by
 rw [decDigits]; split <;> simp
theorem gg_ : ∀ (k u : Nat), u < 10 ^ (k + 1) → nDigits u ≤ k + 1
 | 0, u, h => by rw [Go.Lib.nDigits_small (by simpa using h)]; omega
 | k + 1, u, h => by
  by_cases h1 : u < 10
  ·rw [Go.Lib.nDigits_small h1]; omega
  ·rw [Go.Lib.nDigits_big h1]
   have := gg_ k (u / 10) (by rw [Nat.pow_succ] at h; omega)
   omega
theorem eh_ (l : List UInt8) : (ew_ l).length ≤ l.length := by
 unfold ew_
 rw [length_reverse]
 have := (dropWhile_sublist (l := l.reverse) (fun b => b == 48)).length_le
 rw [length_reverse] at this
 exact this
theorem mO_ {r : Nat} (h : r < 1000000) : (hW_ r).length ≤ 7 := by
 unfold hW_
 split
 ·simp
 ·have h1 := eh_ ((decDigits (1000000 + r)).drop 1)
  rw [length_drop, Go.Lib.decDigits_length, Go.Lib.nDigits_unique 6 (1000000 + r) (by omega) (by omega)] at h1
  rw [List.length_cons]; omega
theorem hI_ {u : Nat} (h : u ≤ 999999999999999999) : (cr_ u).length ≤ 19 := by
 unfold cr_
 split
 ·simp
 ·rw [List.length_append]
  have h1 := mO_ (r := u % 1000000) (by omega)
  have h2 : (bB_ (u / 1000000)).length ≤ 12 := by
   unfold bB_
   split
   ·simp
   ·rw [Go.Lib.decDigits_length]; exact gg_ 11 _ (by omega)
  omega
theorem fF_ {n : Int} (h1 : -999999999999999999 ≤ n) (h2 : n ≤ 999999999999999999) : (bw_ n).length ≤ 20 := by
 have := hI_ (u := n.natAbs) (by omega)
 unfold bw_
 split
 ·rw [List.length_cons]; omega
 ·omega
theorem pa_ (u : Nat) : cr_ u ≠ [] := by
 unfold cr_
 split
 ·simp
 ·intro h
  have h1 := (append_eq_nil_iff.1 h).1
  have h2 := (append_eq_nil_iff.1 h).2
  have e1 : u / 1000000 = 0 := by
   unfold bB_ at h1
   split at h1
   ·assumption
   ·exact absurd h1 (i9_ _)
  have e2 : u % 1000000 = 0 := by
   unfold hW_ at h2
   split at h2
   ·assumption
   ·simp at h2
  omega
theorem qm_ (n : Int) : bw_ n ≠ [] := by
 unfold bw_
 split
 ·simp
 ·exact pa_ _
def db_ (l : List UInt8) : Bool := decide (bw_ (bJ_ l) = l)
theorem qg_ (l : List UInt8) : (decide (l ≠ []) && decide (l.length ≤ 21) && decide (bw_ (bJ_ l) = l)) = db_ l := by
 unfold db_
 by_cases h : bw_ (bJ_ l) = l
 ·have h1 := qm_ (bJ_ l)
  have h2 := fF_ (dM_ l).1 (dM_ l).2
  rw [h] at h1 h2
  have h3 : l.length ≤ 21 := by omega
  simp [h, h1, h3]
 ·simp [h]
theorem qO_ {r : Nat} (h0 : r ≠ 0) (h : r < 1000000) : ∃ b ∈ (decDigits (1000000 + r)).drop 1, b ≠ 48 := by
 have hn : nDigits (1000000 + r) = 7 := Go.Lib.nDigits_unique 6 (1000000 + r) (by omega) (by omega)
 have hd : (decDigits (1000000 + r)).drop 1 = [Go.Lib.dg (1000000 + r) 5, Go.Lib.dg (1000000 + r) 4, Go.Lib.dg (1000000 + r) 3, Go.Lib.dg (1000000 + r) 2, Go.Lib.dg (1000000 + r) 1, Go.Lib.dg (1000000 + r) 0] := by
  rw [Go.Lib.decDigits_eq, hn]; rfl
 have key : ∀ j, Go.Lib.dg (1000000 + r) j = 48 → (1000000 + r) / 10 ^ j % 10 = 0 := by
  intro j hj
  have := congrArg UInt8.toNat hj
  simp only [Go.Lib.dg] at this
  rw [UInt8.toNat_ofNat'] at this
  have h2 : (48 : UInt8).toNat = 48 := rfl
  rw [h2] at this
  omega
 rw [hd]
 apply Classical.byContradiction
 intro hc
 have hall : ∀ b ∈ [Go.Lib.dg (1000000 + r) 5, Go.Lib.dg (1000000 + r) 4, Go.Lib.dg (1000000 + r) 3, Go.Lib.dg (1000000 + r) 2, Go.Lib.dg (1000000 + r) 1, Go.Lib.dg (1000000 + r) 0], b = 48 := by
  intro b hb
  apply Classical.byContradiction
  intro hn
  exact hc ⟨b, hb, hn⟩
 have k5 := key 5 (hall _ (by simp))
 have k4 := key 4 (hall _ (by simp))
 have k3 := key 3 (hall _ (by simp))
 have k2 := key 2 (hall _ (by simp))
 have k1 := key 1 (hall _ (by simp))
 have k0 := key 0 (hall _ (by simp))
 simp only [Nat.reducePow] at k5 k4 k3 k2 k1 k0
 omega
end Go.AW
