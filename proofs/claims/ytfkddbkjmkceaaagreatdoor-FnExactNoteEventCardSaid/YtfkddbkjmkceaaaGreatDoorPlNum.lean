/-
 Plain numbers of texts: the number that a text begins with, the one text of a number, and the ways in which both programs reckon them. Nothing of any program.
-/
import Derived.Lib.ItoaNum
namespace Go.AW
open List
open Go.Lib (decDigits nDigits itoa)
def dk_ (b : UInt8) : Bool := b == 43 || b == 45
def bM_ (b : UInt8) : Bool := decide (48 ≤ b.toNat) && decide (b.toNat ≤ 57)
def dgt (b : UInt8) : Nat := b.toNat - 48
def do_ (acc : Nat) (l : List UInt8) : Nat := l.foldl (fun a b => 10 * a + dgt b) acc
theorem fs_ (acc : Nat) : do_ acc [] = acc := by unfold do_; rw [foldl_nil]
theorem fh_ (acc : Nat) (b : UInt8) (l : List UInt8) : do_ acc (b :: l) = do_ (10 * acc + dgt b) l := by unfold do_; rw [foldl_cons]
theorem j3_ (b : UInt8) (l : List UInt8) : do_ 0 (b :: l) = do_ (dgt b) l := by rw [fh_, Nat.mul_zero, Nat.zero_add]
theorem qP_ (acc : Nat) (a b : List UInt8) : do_ acc (a ++ b) = do_ (do_ acc a) b := by
 induction a generalizing acc with
 | nil => rw [nil_append, fs_]
 | cons x a ih => rw [cons_append, fh_, fh_, ih]
theorem jW_ (acc : Nat) (l : List UInt8) : do_ acc l = acc * 10 ^ l.length + do_ 0 l := by
 induction l generalizing acc with
 | nil => rw [List.length_nil, Nat.pow_zero, Nat.mul_one, fs_, fs_]; rfl
 | cons b l ih =>
  rw [fh_, j3_, ih (10 * acc + dgt b), ih (dgt b), List.length_cons, Nat.pow_succ, Nat.add_mul, Nat.mul_comm 10 acc, Nat.mul_assoc, Nat.mul_comm 10, Nat.add_assoc]
theorem yC_ (acc : Nat) (l : List UInt8) : acc ≤ do_ acc l := by
 rw [jW_]
 have : 1 ≤ 10 ^ l.length := Nat.one_le_pow _ _ (by decide)
 have := Nat.mul_le_mul_left acc this
 omega
theorem yQ_ {b : UInt8} (h : bM_ b = true) : dgt b ≤ 9 := by
 simp only [bM_, Bool.and_eq_true, decide_eq_true_eq] at h
 unfold dgt; omega
theorem ru_ : ∀ (l : List UInt8), (∀ b ∈ l, dgt b ≤ 9) → do_ 0 l < 10 ^ l.length
 | [], _ => by rw [List.length_nil, Nat.pow_zero, fs_]; exact Nat.zero_lt_one
 | b :: l, h => by
  have h2 := ru_ l (fun x hx => h x (by simp [hx]))
  have h3 := h b (by simp)
  rw [j3_, jW_, List.length_cons, Nat.pow_succ]
  generalize 10 ^ l.length = p at *
  have : dgt b * p ≤ 9 * p := Nat.mul_le_mul_right _ h3
  omega
def fX_ (n : Nat) : List UInt8 → Nat
 | [] => n
 | c :: cs => if (999999999999999999 - dgt c) / 10 < n then 999999999999999999 else fX_ (10 * n + dgt c) cs
theorem n0_ : ∀ (l : List UInt8) (n : Nat), n ≤ 999999999999999999 → (∀ b ∈ l, dgt b ≤ 9) → fX_ n l = min (do_ n l) 999999999999999999
 | [], n, h, _ => by rw [fs_]; show n = _; omega
 | c :: cs, n, h, hd => by
  have h3 := hd c (by simp)
  rw [fh_]
  show (if (999999999999999999 - dgt c) / 10 < n then 999999999999999999 else fX_ (10 * n + dgt c) cs) = _
  split
  ·have := yC_ (10 * n + dgt c) cs
   omega
  ·exact n0_ cs _ (by omega) (fun b hb => hd b (by simp [hb]))
def dJ_ (n : Nat) : List UInt8 → Nat
 | [] => n
 | b :: bs => if bM_ b then dJ_ (min (10 * n + dgt b) 1000000000000) bs else n
theorem mH_ : ∀ (l : List UInt8) (n : Nat), dJ_ (min n 1000000000000) l = min (do_ n (l.takeWhile bM_)) 1000000000000
 | [], n => by rw [takeWhile_nil, fs_]; rfl
 | b :: l, n => by
  simp only [dJ_, takeWhile_cons]
  split
  ·have e : min (10 * min n 1000000000000 + dgt b) 1000000000000 = min (10 * n + dgt b) 1000000000000 := by omega
   rw [e, mH_ l, fh_]
  ·rw [fs_]
def eB_ (n unit : Nat) : List UInt8 → Nat
 | [] => n
 | b :: bs => if bM_ b then eB_ (n + dgt b * unit) (unit / 10) bs else n
def jt_ : Nat → Nat
 | 0 => 0
 | j + 1 => 10 ^ j
theorem sb_ (j : Nat) : jt_ (j + 1) / 10 = jt_ j := by
 cases j with
 | zero => rfl
 | succ j => simp only [jt_, Nat.pow_succ]; omega
theorem mO_ (acc n : Nat) : do_ acc (List.replicate n 48) = acc * 10 ^ n := by
 induction n generalizing acc with
 | zero => rw [replicate_zero, fs_, Nat.pow_zero, Nat.mul_one]
 | succ n ih =>
  have : dgt 48 = 0 := rfl
  rw [replicate_succ, fh_, ih, this, Nat.add_zero, Nat.pow_succ, Nat.mul_comm 10 acc, Nat.mul_assoc, Nat.mul_comm 10]
theorem jD_ : ∀ (l : List UInt8) (n j : Nat), j ≤ 6 → eB_ n (jt_ j) l = n + do_ 0 ((l.takeWhile bM_ ++ List.replicate 6 48).take j)
 | [], n, j, hj => by
  have : (([] : List UInt8).takeWhile bM_ ++ List.replicate 6 48).take j = List.replicate j 48 := by
   simp only [takeWhile_nil, nil_append, take_replicate]; congr 1; omega
  rw [this, mO_]; simp [eB_]
 | b :: l, n, j, hj => by
  simp only [eB_, takeWhile_cons]
  split
  ·cases j with
   | zero =>
    have e : jt_ 0 = 0 := rfl
    rw [e, Nat.mul_zero, Nat.add_zero, Nat.zero_div]
    have := jD_ l n 0 (by omega)
    rw [e] at this
    rw [this]; simp
   | succ j =>
    rw [sb_, jD_ l _ j (by omega), cons_append, take_succ_cons]
    rw [j3_, jW_ (dgt b), length_take]
    have : min j (l.takeWhile bM_ ++ List.replicate 6 (48 : UInt8)).length = j := by
     simp only [List.length_append, length_replicate]; omega
    rw [this]
    simp only [jt_]
    omega
  ·have : (([] : List UInt8) ++ List.replicate 6 48).take j = List.replicate j 48 := by
    simp only [nil_append, take_replicate]; congr 1; omega
   rw [this, mO_]; simp
def bD_ (l : List UInt8) : List UInt8 := l.dropWhile dk_
def d4_ (l : List UInt8) : Bool := (l.takeWhile dk_).count 45 % 2 == 1
def nP_ (r : List UInt8) : List UInt8 := r.takeWhile bM_
def cO_ (r : List UInt8) : List UInt8 :=
 match r.dropWhile bM_ with
 | 46 :: t => t.takeWhile bM_
 | _ => []
def six (f : List UInt8) : List UInt8 := (f ++ List.replicate 6 48).take 6
def fT_ (l : List UInt8) : Nat := min (do_ 0 (nP_ (bD_ l)) * 1000000 + do_ 0 (six (cO_ (bD_ l)))) 999999999999999999
def b1_ (l : List UInt8) : Int := if d4_ l then -(fT_ l : Int) else fT_ l
theorem kw_ (l : List UInt8) : fT_ l ≤ 999999999999999999 := Nat.min_le_right _ _
theorem eI_ (l : List UInt8) : -999999999999999999 ≤ b1_ l ∧ b1_ l ≤ 999999999999999999 := by
 have := kw_ l
 unfold b1_
 split <;> omega
theorem kf_ (l : List UInt8) : ∀ b ∈ l.takeWhile bM_, dgt b ≤ 9 := fun b hb => yQ_ (by
 induction l with
 | nil => simp at hb
 | cons x l ih =>
  rw [takeWhile_cons] at hb
  split at hb
  ·rcases mem_cons.1 hb with e | e
   ·subst e; assumption
   ·exact ih e
  ·simp at hb)
theorem nc_ (r : List UInt8) : ∀ b ∈ cO_ r, dgt b ≤ 9 := by
 unfold cO_
 split
 ·exact kf_ _
 ·simp
theorem rE_ {f : List UInt8} (h : ∀ b ∈ f, dgt b ≤ 9) : ∀ b ∈ six f, dgt b ≤ 9 := by
 intro b hb
 have := mem_of_mem_take hb
 rcases mem_append.1 this with q | q
 ·exact h b q
 ·rw [eq_of_mem_replicate q]; decide
theorem jX_ (f : List UInt8) : (six f).length = 6 := by simp [six]
theorem u9_ (l : List UInt8) : fX_ 0 (nP_ (bD_ l) ++ six (cO_ (bD_ l))) = fT_ l := by
 rw [n0_ _ _ (by omega), qP_, jW_ (do_ 0 _), jX_]
 ·rfl
 ·intro b hb
  rcases mem_append.1 hb with q | q
  ·exact kf_ _ b q
  ·exact rE_ (nc_ _) b q
theorem vx_ (l : List UInt8) : min (min (dJ_ 0 (bD_ l) * 1000000) 1000000000000000000 + do_ 0 (six (cO_ (bD_ l)))) 999999999999999999 = fT_ l := by
 have h1 := mH_ (bD_ l) 0
 rw [Nat.zero_min] at h1
 have h2 := ru_ _ (rE_ (nc_ (bD_ l)))
 rw [jX_] at h2
 unfold fT_ nP_
 rw [h1]
 omega
def cf_ (u : Nat) : List UInt8 := if u = 0 then [] else decDigits u
def fG_ (l : List UInt8) : List UInt8 := (l.reverse.dropWhile fun b => b == 48).reverse
def jR_ (r : Nat) : List UInt8 := if r = 0 then [] else 46 :: fG_ ((decDigits (1000000 + r)).drop 1)
def db_ (u : Nat) : List UInt8 := if u = 0 then [48] else cf_ (u / 1000000) ++ jR_ (u % 1000000)
def b6_ (n : Int) : List UInt8 := if n < 0 then 45 :: db_ n.natAbs else db_ n.natAbs
theorem lj_ (u : Nat) : decDigits u ≠ [] := by
 rw [decDigits]; split <;> simp
theorem hQ_ : ∀ (k u : Nat), u < 10 ^ (k + 1) → nDigits u ≤ k + 1
 | 0, u, h => by rw [Go.Lib.nDigits_small (by simpa using h)]; omega
 | k + 1, u, h => by
  by_cases h1 : u < 10
  ·rw [Go.Lib.nDigits_small h1]; omega
  ·rw [Go.Lib.nDigits_big h1]
   have := hQ_ k (u / 10) (by rw [Nat.pow_succ] at h; omega)
   omega
theorem e5_ (l : List UInt8) : (fG_ l).length ≤ l.length := by
 unfold fG_
 rw [length_reverse]
 have := (dropWhile_sublist (l := l.reverse) (fun b => b == 48)).length_le
 rw [length_reverse] at this
 exact this
theorem pE_ {r : Nat} (h : r < 1000000) : (jR_ r).length ≤ 7 := by
 unfold jR_
 split
 ·simp
 ·have h1 := e5_ ((decDigits (1000000 + r)).drop 1)
  rw [length_drop, Go.Lib.decDigits_length, Go.Lib.nDigits_unique 6 (1000000 + r) (by omega) (by omega)] at h1
  rw [List.length_cons]; omega
theorem jq_ {u : Nat} (h : u ≤ 999999999999999999) : (db_ u).length ≤ 19 := by
 unfold db_
 split
 ·simp
 ·rw [List.length_append]
  have h1 := pE_ (r := u % 1000000) (by omega)
  have h2 : (cf_ (u / 1000000)).length ≤ 12 := by
   unfold cf_
   split
   ·simp
   ·rw [Go.Lib.decDigits_length]; exact hQ_ 11 _ (by omega)
  omega
theorem g6_ {n : Int} (h1 : -999999999999999999 ≤ n) (h2 : n ≤ 999999999999999999) : (b6_ n).length ≤ 20 := by
 have := jq_ (u := n.natAbs) (by omega)
 unfold b6_
 split
 ·rw [List.length_cons]; omega
 ·omega
theorem sm_ (u : Nat) : db_ u ≠ [] := by
 unfold db_
 split
 ·simp
 ·intro h
  have h1 := (append_eq_nil_iff.1 h).1
  have h2 := (append_eq_nil_iff.1 h).2
  have e1 : u / 1000000 = 0 := by
   unfold cf_ at h1
   split at h1
   ·assumption
   ·exact absurd h1 (lj_ _)
  have e2 : u % 1000000 = 0 := by
   unfold jR_ at h2
   split at h2
   ·assumption
   ·simp at h2
  omega
theorem s9_ (n : Int) : b6_ n ≠ [] := by
 unfold b6_
 split
 ·simp
 ·exact sm_ _
def b8_ (l : List UInt8) : Bool := decide (b6_ (b1_ l) = l)
theorem r3_ (l : List UInt8) : (decide (l ≠ []) && decide (l.length ≤ 21) && decide (b6_ (b1_ l) = l)) = b8_ l := by
 unfold b8_
 by_cases h : b6_ (b1_ l) = l
 ·have h1 := s9_ (b1_ l)
  have h2 := g6_ (eI_ l).1 (eI_ l).2
  rw [h] at h1 h2
  have h3 : l.length ≤ 21 := by omega
  simp [h, h1, h3]
 ·simp [h]
theorem tt_ {a b : List UInt8} (ha : b8_ a = true) (hb : b8_ b = true) (h : b1_ a = b1_ b) : a = b := by
 rw [← of_decide_eq_true ha, ← of_decide_eq_true hb, h]
theorem uc_ {r : Nat} (h0 : r ≠ 0) (h : r < 1000000) : ∃ b ∈ (decDigits (1000000 + r)).drop 1, b ≠ 48 := by
 have hn : nDigits (1000000 + r) = 7 := Go.Lib.nDigits_unique 6 (1000000 + r) (by omega) (by omega)
 have hd : (decDigits (1000000 + r)).drop 1 = [Go.Lib.dg (1000000 + r) 5, Go.Lib.dg (1000000 + r) 4, Go.Lib.dg (1000000 + r) 3, Go.Lib.dg (1000000 + r) 2, Go.Lib.dg (1000000 + r) 1, Go.Lib.dg (1000000 + r) 0] := by
  rw [Go.Lib.decDigits_eq, hn]; rfl
 have key : ∀ j, Go.Lib.dg (1000000 + r) j = 48 → (1000000 + r) / 10 ^ j % 10 = 0 := by
  intro j hj
  have := congrArg UInt8.toNat hj
  simp only [Go.Lib.dg] at this
  rw [UInt8.toNat_ofNat'] at this
  have h2 : (48 : UInt8).toNat = 48 := rfl
  rw [h2] at this
  omega
 rw [hd]
 apply Classical.byContradiction
 intro hc
 have hall : ∀ b ∈ [Go.Lib.dg (1000000 + r) 5, Go.Lib.dg (1000000 + r) 4, Go.Lib.dg (1000000 + r) 3, Go.Lib.dg (1000000 + r) 2, Go.Lib.dg (1000000 + r) 1, Go.Lib.dg (1000000 + r) 0], b = 48 := by
  intro b hb
  apply Classical.byContradiction
  intro hn
  exact hc ⟨b, hb, hn⟩
 have k5 := key 5 (hall _ (by simp))
 have k4 := key 4 (hall _ (by simp))
 have k3 := key 3 (hall _ (by simp))
 have k2 := key 2 (hall _ (by simp))
 have k1 := key 1 (hall _ (by simp))
 have k0 := key 0 (hall _ (by simp))
 simp only [Nat.reducePow] at k5 k4 k3 k2 k1 k0
 omega
end Go.AW
