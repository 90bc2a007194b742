/-
 Plain numbers of texts: the number that a text begins with, the one text of a number, and the ways in which both programs reckon them. Nothing of any program.
-/
import Derived.Lib.ItoaNum
namespace Go.AW
open List
open Go.Lib (decDigits nDigits itoa)
def cS_ (b : UInt8) : Bool := b == 43 || b == 45
def bx_ (b : UInt8) : Bool := decide (48 ≤ b.toNat) && decide (b.toNat ≤ 57)
def dgt (b : UInt8) : Nat := b.toNat - 48
def cX_ (acc : Nat) (l : List UInt8) : Nat := l.foldl (fun a b => 10 * a + dgt b) acc
theorem eg_ (acc : Nat) : cX_ acc [] = acc := by unfold cX_; rw [foldl_nil]
theorem ea_ (acc : Nat) (b : UInt8) (l : List UInt8) : cX_ acc (b :: l) = cX_ (10 * acc + dgt b) l := by unfold cX_; rw [foldl_cons]
theorem iH_ (b : UInt8) (l : List UInt8) : cX_ 0 (b :: l) = cX_ (dgt b) l := by rw [ea_, Nat.mul_zero, Nat.zero_add]
theorem o6_ (acc : Nat) (a b : List UInt8) : cX_ acc (a ++ b) = cX_ (cX_ acc a) b := by
 induction a generalizing acc with
 | nil => rw [nil_append, eg_]
 | cons x a ih => rw [cons_append, ea_, ea_, ih]
theorem ip_ (acc : Nat) (l : List UInt8) : cX_ acc l = acc * 10 ^ l.length + cX_ 0 l := by
 induction l generalizing acc with
 | nil => rw [List.length_nil, Nat.pow_zero, Nat.mul_one, eg_, eg_]; rfl
 | cons b l ih =>
  rw [ea_, iH_, ih (10 * acc + dgt b), ih (dgt b), List.length_cons, Nat.pow_succ, Nat.add_mul, Nat.mul_comm 10 acc, Nat.mul_assoc, Nat.mul_comm 10, Nat.add_assoc]
theorem uQ_ (acc : Nat) (l : List UInt8) : acc ≤ cX_ acc l := by
 rw [ip_]
 have : 1 ≤ 10 ^ l.length := Nat.one_le_pow _ _ (by decide)
 have := Nat.mul_le_mul_left acc this
 omega
theorem wC_ {b : UInt8} (h : bx_ b = true) : dgt b ≤ 9 := by
 simp only [bx_, Bool.and_eq_true, decide_eq_true_eq] at h
 unfold dgt; omega
theorem pb_ : ∀ (l : List UInt8), (∀ b ∈ l, dgt b ≤ 9) → cX_ 0 l < 10 ^ l.length
 | [], _ => by rw [List.length_nil, Nat.pow_zero, eg_]; exact Nat.zero_lt_one
 | b :: l, h => by
  have h2 := pb_ l (fun x hx => h x (by simp [hx]))
  have h3 := h b (by simp)
  rw [iH_, ip_, List.length_cons, Nat.pow_succ]
  generalize 10 ^ l.length = p at *
  have : dgt b * p ≤ 9 * p := Nat.mul_le_mul_right _ h3
  omega
def eN_ (n : Nat) : List UInt8 → Nat
 | [] => n
 | c :: cs => if (999999999999999999 - dgt c) / 10 < n then 999999999999999999 else eN_ (10 * n + dgt c) cs
theorem mj_ : ∀ (l : List UInt8) (n : Nat), n ≤ 999999999999999999 → (∀ b ∈ l, dgt b ≤ 9) → eN_ n l = min (cX_ n l) 999999999999999999
 | [], n, h, _ => by rw [eg_]; show n = _; omega
 | c :: cs, n, h, hd => by
  have h3 := hd c (by simp)
  rw [ea_]
  show (if (999999999999999999 - dgt c) / 10 < n then 999999999999999999 else eN_ (10 * n + dgt c) cs) = _
  split
  ·have := uQ_ (10 * n + dgt c) cs
   omega
  ·exact mj_ cs _ (by omega) (fun b hb => hd b (by simp [hb]))
def c9_ (n : Nat) : List UInt8 → Nat
 | [] => n
 | b :: bs => if bx_ b then c9_ (min (10 * n + dgt b) 1000000000000) bs else n
theorem kW_ : ∀ (l : List UInt8) (n : Nat), c9_ (min n 1000000000000) l = min (cX_ n (l.takeWhile bx_)) 1000000000000
 | [], n => by rw [takeWhile_nil, eg_]; rfl
 | b :: l, n => by
  simp only [c9_, takeWhile_cons]
  split
  ·have e : min (10 * min n 1000000000000 + dgt b) 1000000000000 = min (10 * n + dgt b) 1000000000000 := by omega
   rw [e, kW_ l, ea_]
  ·rw [eg_]
def dH_ (n unit : Nat) : List UInt8 → Nat
 | [] => n
 | b :: bs => if bx_ b then dH_ (n + dgt b * unit) (unit / 10) bs else n
def ic_ : Nat → Nat
 | 0 => 0
 | j + 1 => 10 ^ j
theorem qk_ (j : Nat) : ic_ (j + 1) / 10 = ic_ j := by
 cases j with
 | zero => rfl
 | succ j => simp only [ic_, Nat.pow_succ]; omega
theorem lb_ (acc n : Nat) : cX_ acc (List.replicate n 48) = acc * 10 ^ n := by
 induction n generalizing acc with
 | zero => rw [replicate_zero, eg_, Nat.pow_zero, Nat.mul_one]
 | succ n ih =>
  have : dgt 48 = 0 := rfl
  rw [replicate_succ, ea_, ih, this, Nat.add_zero, Nat.pow_succ, Nat.mul_comm 10 acc, Nat.mul_assoc, Nat.mul_comm 10]
theorem ii_ : ∀ (l : List UInt8) (n j : Nat), j ≤ 6 → dH_ n (ic_ j) l = n + cX_ 0 ((l.takeWhile bx_ ++ List.replicate 6 48).take j)
 | [], n, j, hj => by
  have : (([] : List UInt8).takeWhile bx_ ++ List.replicate 6 48).take j = List.replicate j 48 := by
   simp only [takeWhile_nil, nil_append, take_replicate]; congr 1; omega
  rw [this, lb_]; simp [dH_]
 | b :: l, n, j, hj => by
  simp only [dH_, takeWhile_cons]
  split
  ·cases j with
   | zero =>
    have e : ic_ 0 = 0 := rfl
    rw [e, Nat.mul_zero, Nat.add_zero, Nat.zero_div]
    have := ii_ l n 0 (by omega)
    rw [e] at this
    rw [this]; simp
   | succ j =>
    rw [qk_, ii_ l _ j (by omega), cons_append, take_succ_cons]
    rw [iH_, ip_ (dgt b), length_take]
    have : min j (l.takeWhile bx_ ++ List.replicate 6 (48 : UInt8)).length = j := by
     simp only [List.length_append, length_replicate]; omega
    rw [this]
    simp only [ic_]
    omega
  ·have : (([] : List UInt8) ++ List.replicate 6 48).take j = List.replicate j 48 := by
    simp only [nil_append, take_replicate]; congr 1; omega
   rw [this, lb_]; simp
def bn_ (l : List UInt8) : List UInt8 := l.dropWhile cS_
def dp_ (l : List UInt8) : Bool := (l.takeWhile cS_).count 45 % 2 == 1
def me_ (r : List UInt8) : List UInt8 := r.takeWhile bx_
def cs_ (r : List UInt8) : List UInt8 :=
 match r.dropWhile bx_ with
 | 46 :: t => t.takeWhile bx_
 | _ => []
def six (f : List UInt8) : List UInt8 := (f ++ List.replicate 6 48).take 6
def eP_ (l : List UInt8) : Nat := min (cX_ 0 (me_ (bn_ l)) * 1000000 + cX_ 0 (six (cs_ (bn_ l)))) 999999999999999999
def bZ_ (l : List UInt8) : Int := if dp_ l then -(eP_ l : Int) else eP_ l
theorem jj_ (l : List UInt8) : eP_ l ≤ 999999999999999999 := Nat.min_le_right _ _
theorem iv_ (l : List UInt8) : -999999999999999999 ≤ bZ_ l ∧ bZ_ l ≤ 999999999999999999 := by
 have := jj_ l
 unfold bZ_
 split <;> omega
theorem iY_ (l : List UInt8) : ∀ b ∈ l.takeWhile bx_, dgt b ≤ 9 := fun b hb => wC_ (by
 induction l with
 | nil => simp at hb
 | cons x l ih =>
  rw [takeWhile_cons] at hb
  split at hb
  ·rcases mem_cons.1 hb with e | e
   ·subst e; assumption
   ·exact ih e
  ·simp at hb)
theorem lp_ (r : List UInt8) : ∀ b ∈ cs_ r, dgt b ≤ 9 := by
 unfold cs_
 split
 ·exact iY_ _
 ·simp
theorem pc_ {f : List UInt8} (h : ∀ b ∈ f, dgt b ≤ 9) : ∀ b ∈ six f, dgt b ≤ 9 := by
 intro b hb
 have := mem_of_mem_take hb
 rcases mem_append.1 this with q | q
 ·exact h b q
 ·rw [eq_of_mem_replicate q]; decide
theorem iV_ (f : List UInt8) : (six f).length = 6 := by simp [six]
theorem s2_ (l : List UInt8) : eN_ 0 (me_ (bn_ l) ++ six (cs_ (bn_ l))) = eP_ l := by
 rw [mj_ _ _ (by omega), o6_, ip_ (cX_ 0 _), iV_]
 ·rfl
 ·intro b hb
  rcases mem_append.1 hb with q | q
  ·exact iY_ _ b q
  ·exact pc_ (lp_ _) b q
theorem rT_ (l : List UInt8) : min (min (c9_ 0 (bn_ l) * 1000000) 1000000000000000000 + cX_ 0 (six (cs_ (bn_ l)))) 999999999999999999 = eP_ l := by
 have h1 := kW_ (bn_ l) 0
 rw [Nat.zero_min] at h1
 have h2 := pb_ _ (pc_ (lp_ (bn_ l)))
 rw [iV_] at h2
 unfold eP_ me_
 rw [h1]
 omega
def bT_ (u : Nat) : List UInt8 := if u = 0 then [] else decDigits u
def et_ (l : List UInt8) : List UInt8 := (l.reverse.dropWhile fun b => b == 48).reverse
def iF_ (r : Nat) : List UInt8 := if r = 0 then [] else 46 :: et_ ((decDigits (1000000 + r)).drop 1)
def cH_ (u : Nat) : List UInt8 := if u = 0 then [48] else bT_ (u / 1000000) ++ iF_ (u % 1000000)
def b8_ (n : Int) : List UInt8 := if n < 0 then 45 :: cH_ n.natAbs else cH_ n.natAbs
theorem jG_ (u : Nat) : decDigits u ≠ [] := by
 rw [decDigits]; split <;> simp
theorem gL_ : ∀ (k u : Nat), u < 10 ^ (k + 1) → nDigits u ≤ k + 1
 | 0, u, h => by rw [Go.Lib.nDigits_small (by simpa using h)]; omega
 | k + 1, u, h => by
  by_cases h1 : u < 10
  ·rw [Go.Lib.nDigits_small h1]; omega
  ·rw [Go.Lib.nDigits_big h1]
   have := gL_ k (u / 10) (by rw [Nat.pow_succ] at h; omega)
   omega
theorem ec_ (l : List UInt8) : (et_ l).length ≤ l.length := by
 unfold et_
 rw [length_reverse]
 have := (dropWhile_sublist (l := l.reverse) (fun b => b == 48)).length_le
 rw [length_reverse] at this
 exact this
theorem n4_ {r : Nat} (h : r < 1000000) : (iF_ r).length ≤ 7 := by
 unfold iF_
 split
 ·simp
 ·have h1 := ec_ ((decDigits (1000000 + r)).drop 1)
  rw [length_drop, Go.Lib.decDigits_length, Go.Lib.nDigits_unique 6 (1000000 + r) (by omega) (by omega)] at h1
  rw [List.length_cons]; omega
theorem h0_ {u : Nat} (h : u ≤ 999999999999999999) : (cH_ u).length ≤ 19 := by
 unfold cH_
 split
 ·simp
 ·rw [List.length_append]
  have h1 := n4_ (r := u % 1000000) (by omega)
  have h2 : (bT_ (u / 1000000)).length ≤ 12 := by
   unfold bT_
   split
   ·simp
   ·rw [Go.Lib.decDigits_length]; exact gL_ 11 _ (by omega)
  omega
theorem l9_ {n : Int} (h1 : -999999999999999999 ≤ n) (h2 : n ≤ 999999999999999999) : (b8_ n).length ≤ 20 := by
 have := h0_ (u := n.natAbs) (by omega)
 unfold b8_
 split
 ·rw [List.length_cons]; omega
 ·omega
theorem qm_ (u : Nat) : cH_ u ≠ [] := by
 unfold cH_
 split
 ·simp
 ·intro h
  have h1 := (append_eq_nil_iff.1 h).1
  have h2 := (append_eq_nil_iff.1 h).2
  have e1 : u / 1000000 = 0 := by
   unfold bT_ at h1
   split at h1
   ·assumption
   ·exact absurd h1 (jG_ _)
  have e2 : u % 1000000 = 0 := by
   unfold iF_ at h2
   split at h2
   ·assumption
   ·simp at h2
  omega
theorem pt_ (n : Int) : b8_ n ≠ [] := by
 unfold b8_
 split
 ·simp
 ·exact qm_ _
def b9_ (l : List UInt8) : Bool := decide (b8_ (bZ_ l) = l)
theorem pS_ (l : List UInt8) : (decide (l ≠ []) && decide (l.length ≤ 21) && decide (b8_ (bZ_ l) = l)) = b9_ l := by
 unfold b9_
 by_cases h : b8_ (bZ_ l) = l
 ·have h1 := pt_ (bZ_ l)
  have h2 := l9_ (iv_ l).1 (iv_ l).2
  rw [h] at h1 h2
  have h3 : l.length ≤ 21 := by omega
  simp [h, h1, h3]
 ·simp [h]
theorem rt_ {a b : List UInt8} (ha : b9_ a = true) (hb : b9_ b = true) (h : bZ_ a = bZ_ b) : a = b := by
 rw [← of_decide_eq_true ha, ← of_decide_eq_true hb, h]
theorem qS_ {r : Nat} (h0 : r ≠ 0) (h : r < 1000000) : ∃ b ∈ (decDigits (1000000 + r)).drop 1, b ≠ 48 := by
 have hn : nDigits (1000000 + r) = 7 := Go.Lib.nDigits_unique 6 (1000000 + r) (by omega) (by omega)
 have hd : (decDigits (1000000 + r)).drop 1 = [Go.Lib.dg (1000000 + r) 5, Go.Lib.dg (1000000 + r) 4, Go.Lib.dg (1000000 + r) 3, Go.Lib.dg (1000000 + r) 2, Go.Lib.dg (1000000 + r) 1, Go.Lib.dg (1000000 + r) 0] := by
  rw [Go.Lib.decDigits_eq, hn]; rfl
 have key : ∀ j, Go.Lib.dg (1000000 + r) j = 48 → (1000000 + r) / 10 ^ j % 10 = 0 := by
  intro j hj
  have := congrArg UInt8.toNat hj
  simp only [Go.Lib.dg] at this
  rw [UInt8.toNat_ofNat'] at this
  have h2 : (48 : UInt8).toNat = 48 := rfl
  rw [h2] at this
  omega
 rw [hd]
 apply Classical.byContradiction
 intro hc
 have hall : ∀ b ∈ [Go.Lib.dg (1000000 + r) 5, Go.Lib.dg (1000000 + r) 4, Go.Lib.dg (1000000 + r) 3, Go.Lib.dg (1000000 + r) 2, Go.Lib.dg (1000000 + r) 1, Go.Lib.dg (1000000 + r) 0], b = 48 := by
  intro b hb
  apply Classical.byContradiction
  intro hn
  exact hc ⟨b, hb, hn⟩
 have k5 := key 5 (hall _ (by simp))
 have k4 := key 4 (hall _ (by simp))
 have k3 := key 3 (hall _ (by simp))
 have k2 := key 2 (hall _ (by simp))
 have k1 := key 1 (hall _ (by simp))
 have k0 := key 0 (hall _ (by simp))
 simp only [Nat.reducePow] at k5 k4 k3 k2 k1 k0
 omega
end Go.AW
