/-
  Plain numbers of texts: the number that a text begins with, the one text of a number, and the ways in which both programs reckon them. Nothing of any program.
-/
import Derived.Lib.ItoaNum
namespace Go.AW
open Go.Lib (decDigits nDigits itoa)

def isSgn (b : UInt8) : Bool := b == 43 || b == 45
def isDgt (b : UInt8) : Bool := decide (48 ≤ b.toNat) && decide (b.toNat ≤ 57)
def dgt (b : UInt8) : Nat := b.toNat - 48
def dval (acc : Nat) (l : List UInt8) : Nat := l.foldl (fun a b => 10 * a + dgt b) acc

theorem dval_nil (acc : Nat) : dval acc [] = acc := by unfold dval; rw [List.foldl_nil]
theorem dval_cons (acc : Nat) (b : UInt8) (l : List UInt8) : dval acc (b :: l) = dval (10 * acc + dgt b) l := by unfold dval; rw [List.foldl_cons]
theorem dval_cons0 (b : UInt8) (l : List UInt8) : dval 0 (b :: l) = dval (dgt b) l := by rw [dval_cons, Nat.mul_zero, Nat.zero_add]
theorem dval_append (acc : Nat) (a b : List UInt8) : dval acc (a ++ b) = dval (dval acc a) b := by
  induction a generalizing acc with
  | nil => rw [List.nil_append, dval_nil]
  | cons x a ih => rw [List.cons_append, dval_cons, dval_cons, ih]
theorem dval_acc (acc : Nat) (l : List UInt8) : dval acc l = acc * 10 ^ l.length + dval 0 l := by
  induction l generalizing acc with
  | nil => rw [List.length_nil, Nat.pow_zero, Nat.mul_one, dval_nil, dval_nil]; rfl
  | cons b l ih =>
    rw [dval_cons, dval_cons0, ih (10 * acc + dgt b), ih (dgt b), List.length_cons, Nat.pow_succ, Nat.add_mul, Nat.mul_comm 10 acc, Nat.mul_assoc, Nat.mul_comm 10, Nat.add_assoc]
theorem dval_ge (acc : Nat) (l : List UInt8) : acc ≤ dval acc l := by
  rw [dval_acc]
  have : 1 ≤ 10 ^ l.length := Nat.one_le_pow _ _ (by decide)
  have := Nat.mul_le_mul_left acc this
  omega
theorem dgt_lt {b : UInt8} (h : isDgt b = true) : dgt b ≤ 9 := by
  simp only [isDgt, Bool.and_eq_true, decide_eq_true_eq] at h
  unfold dgt; omega
theorem dval_lt : ∀ (l : List UInt8), (∀ b ∈ l, dgt b ≤ 9) → dval 0 l < 10 ^ l.length
  | [], _ => by rw [List.length_nil, Nat.pow_zero, dval_nil]; exact Nat.zero_lt_one
  | b :: l, h => by
    have h2 := dval_lt l (fun x hx => h x (by simp [hx]))
    have h3 := h b (by simp)
    rw [dval_cons0, dval_acc, List.length_cons, Nat.pow_succ]
    generalize 10 ^ l.length = p at *
    have : dgt b * p ≤ 9 * p := Nat.mul_le_mul_right _ h3
    omega

/-- impl's way: digits behind a number, never over the greatest. -/
def scaled (n : Nat) : List UInt8 → Nat
  | [] => n
  | c :: cs => if (999999999999999999 - dgt c) / 10 < n then 999999999999999999 else scaled (10 * n + dgt c) cs
theorem scaled_eq : ∀ (l : List UInt8) (n : Nat), n ≤ 999999999999999999 → (∀ b ∈ l, dgt b ≤ 9) → scaled n l = min (dval n l) 999999999999999999
  | [], n, h, _ => by rw [dval_nil]; show n = _; omega
  | c :: cs, n, h, hd => by
    have h3 := hd c (by simp)
    rw [dval_cons]
    show (if (999999999999999999 - dgt c) / 10 < n then 999999999999999999 else scaled (10 * n + dgt c) cs) = _
    split
    · have := dval_ge (10 * n + dgt c) cs
      omega
    · exact scaled_eq cs _ (by omega) (fun b hb => hd b (by simp [hb]))

/-- spec's way with whole digits. -/
def whole12 (n : Nat) : List UInt8 → Nat
  | [] => n
  | b :: bs => if isDgt b then whole12 (min (10 * n + dgt b) 1000000000000) bs else n
theorem whole12_eq : ∀ (l : List UInt8) (n : Nat), whole12 (min n 1000000000000) l = min (dval n (l.takeWhile isDgt)) 1000000000000
  | [], n => by rw [List.takeWhile_nil, dval_nil]; rfl
  | b :: l, n => by
    simp only [whole12, List.takeWhile_cons]
    split
    · have e : min (10 * min n 1000000000000 + dgt b) 1000000000000 = min (10 * n + dgt b) 1000000000000 := by omega
      rw [e, whole12_eq l, dval_cons]
    · rw [dval_nil]

/-- spec's way with the digits behind the point. -/
def fracRun (n unit : Nat) : List UInt8 → Nat
  | [] => n
  | b :: bs => if isDgt b then fracRun (n + dgt b * unit) (unit / 10) bs else n
def unitOf : Nat → Nat
  | 0 => 0
  | j + 1 => 10 ^ j
theorem unitOf_div (j : Nat) : unitOf (j + 1) / 10 = unitOf j := by
  cases j with
  | zero => rfl
  | succ j => simp only [unitOf, Nat.pow_succ]; omega
theorem dval_zeros (acc n : Nat) : dval acc (List.replicate n 48) = acc * 10 ^ n := by
  induction n generalizing acc with
  | zero => rw [List.replicate_zero, dval_nil, Nat.pow_zero, Nat.mul_one]
  | succ n ih =>
    have : dgt 48 = 0 := rfl
    rw [List.replicate_succ, dval_cons, ih, this, Nat.add_zero, Nat.pow_succ, Nat.mul_comm 10 acc, Nat.mul_assoc, Nat.mul_comm 10]
theorem fracRun_eq : ∀ (l : List UInt8) (n j : Nat), j ≤ 6 → fracRun n (unitOf j) l = n + dval 0 ((l.takeWhile isDgt ++ List.replicate 6 48).take j)
  | [], n, j, hj => by
    have : (([] : List UInt8).takeWhile isDgt ++ List.replicate 6 48).take j = List.replicate j 48 := by
      simp only [List.takeWhile_nil, List.nil_append, List.take_replicate]; congr 1; omega
    rw [this, dval_zeros]; simp [fracRun]
  | b :: l, n, j, hj => by
    simp only [fracRun, List.takeWhile_cons]
    split
    · cases j with
      | zero =>
        have e : unitOf 0 = 0 := rfl
        rw [e, Nat.mul_zero, Nat.add_zero, Nat.zero_div]
        have := fracRun_eq l n 0 (by omega)
        rw [e] at this
        rw [this]; simp
      | succ j =>
        rw [unitOf_div, fracRun_eq l _ j (by omega), List.cons_append, List.take_succ_cons]
        rw [dval_cons0, dval_acc (dgt b), List.length_take]
        have : min j (l.takeWhile isDgt ++ List.replicate 6 (48 : UInt8)).length = j := by
          simp only [List.length_append, List.length_replicate]; omega
        rw [this]
        simp only [unitOf]
        omega
    · have : (([] : List UInt8) ++ List.replicate 6 48).take j = List.replicate j 48 := by
        simp only [List.nil_append, List.take_replicate]; congr 1; omega
      rw [this, dval_zeros]; simp

def restOf (l : List UInt8) : List UInt8 := l.dropWhile isSgn
def sgnNeg (l : List UInt8) : Bool := (l.takeWhile isSgn).count 45 % 2 == 1
def wholeOf (r : List UInt8) : List UInt8 := r.takeWhile isDgt
def fracOf (r : List UInt8) : List UInt8 :=
  match r.dropWhile isDgt with
  | 46 :: t => t.takeWhile isDgt
  | _ => []
def six (f : List UInt8) : List UInt8 := (f ++ List.replicate 6 48).take 6
def numAbs (l : List UInt8) : Nat := min (dval 0 (wholeOf (restOf l)) * 1000000 + dval 0 (six (fracOf (restOf l)))) 999999999999999999
def numOf (l : List UInt8) : Int := if sgnNeg l then -(numAbs l : Int) else numAbs l

theorem numAbs_le (l : List UInt8) : numAbs l ≤ 999999999999999999 := Nat.min_le_right _ _
theorem numOf_le (l : List UInt8) : -999999999999999999 ≤ numOf l ∧ numOf l ≤ 999999999999999999 := by
  have := numAbs_le l
  unfold numOf
  split <;> omega

theorem takeWhile_dgt (l : List UInt8) : ∀ b ∈ l.takeWhile isDgt, dgt b ≤ 9 := fun b hb => dgt_lt (by
  induction l with
  | nil => simp at hb
  | cons x l ih =>
    rw [List.takeWhile_cons] at hb
    split at hb
    · rcases List.mem_cons.1 hb with e | e
      · subst e; assumption
      · exact ih e
    · simp at hb)
theorem fracOf_dgt (r : List UInt8) : ∀ b ∈ fracOf r, dgt b ≤ 9 := by
  unfold fracOf
  split
  · exact takeWhile_dgt _
  · simp
theorem six_dgt {f : List UInt8} (h : ∀ b ∈ f, dgt b ≤ 9) : ∀ b ∈ six f, dgt b ≤ 9 := by
  intro b hb
  have := List.mem_of_mem_take hb
  rcases List.mem_append.1 this with q | q
  · exact h b q
  · rw [List.eq_of_mem_replicate q]; decide
theorem six_length (f : List UInt8) : (six f).length = 6 := by simp [six]

/-- impl's number. -/
theorem impl_abs (l : List UInt8) : scaled 0 (wholeOf (restOf l) ++ six (fracOf (restOf l))) = numAbs l := by
  rw [scaled_eq _ _ (by omega), dval_append, dval_acc (dval 0 _), six_length]
  · rfl
  · intro b hb
    rcases List.mem_append.1 hb with q | q
    · exact takeWhile_dgt _ b q
    · exact six_dgt (fracOf_dgt _) b q
/-- spec's number. -/
theorem spec_abs (l : List UInt8) : min (min (whole12 0 (restOf l) * 1000000) 1000000000000000000 + dval 0 (six (fracOf (restOf l)))) 999999999999999999 = numAbs l := by
  have h1 := whole12_eq (restOf l) 0
  rw [Nat.zero_min] at h1
  have h2 := dval_lt _ (six_dgt (fracOf_dgt (restOf l)))
  rw [six_length] at h2
  unfold numAbs wholeOf
  rw [h1]
  omega

def wholeD (u : Nat) : List UInt8 := if u = 0 then [] else decDigits u
def trim0 (l : List UInt8) : List UInt8 := (l.reverse.dropWhile fun b => b == 48).reverse
def fracD (r : Nat) : List UInt8 := if r = 0 then [] else 46 :: trim0 ((decDigits (1000000 + r)).drop 1)
def textAbs (u : Nat) : List UInt8 := if u = 0 then [48] else wholeD (u / 1000000) ++ fracD (u % 1000000)
def numText (n : Int) : List UInt8 := if n < 0 then 45 :: textAbs n.natAbs else textAbs n.natAbs

theorem decDigits_ne (u : Nat) : decDigits u ≠ [] := by
  rw [decDigits]; split <;> simp
theorem nDigits_le : ∀ (k u : Nat), u < 10 ^ (k + 1) → nDigits u ≤ k + 1
  | 0, u, h => by rw [Go.Lib.nDigits_small (by simpa using h)]; omega
  | k + 1, u, h => by
    by_cases h1 : u < 10
    · rw [Go.Lib.nDigits_small h1]; omega
    · rw [Go.Lib.nDigits_big h1]
      have := nDigits_le k (u / 10) (by rw [Nat.pow_succ] at h; omega)
      omega
theorem trim0_length (l : List UInt8) : (trim0 l).length ≤ l.length := by
  unfold trim0
  rw [List.length_reverse]
  have := (List.dropWhile_sublist (l := l.reverse) (fun b => b == 48)).length_le
  rw [List.length_reverse] at this
  exact this
theorem fracD_length {r : Nat} (h : r < 1000000) : (fracD r).length ≤ 7 := by
  unfold fracD
  split
  · simp
  · have h1 := trim0_length ((decDigits (1000000 + r)).drop 1)
    rw [List.length_drop, Go.Lib.decDigits_length, Go.Lib.nDigits_unique 6 (1000000 + r) (by omega) (by omega)] at h1
    rw [List.length_cons]; omega
theorem textAbs_length {u : Nat} (h : u ≤ 999999999999999999) : (textAbs u).length ≤ 19 := by
  unfold textAbs
  split
  · simp
  · rw [List.length_append]
    have h1 := fracD_length (r := u % 1000000) (by omega)
    have h2 : (wholeD (u / 1000000)).length ≤ 12 := by
      unfold wholeD
      split
      · simp
      · rw [Go.Lib.decDigits_length]; exact nDigits_le 11 _ (by omega)
    omega
theorem numText_length {n : Int} (h1 : -999999999999999999 ≤ n) (h2 : n ≤ 999999999999999999) : (numText n).length ≤ 20 := by
  have := textAbs_length (u := n.natAbs) (by omega)
  unfold numText
  split
  · rw [List.length_cons]; omega
  · omega
theorem textAbs_ne (u : Nat) : textAbs u ≠ [] := by
  unfold textAbs
  split
  · simp
  · intro h
    have h1 := (List.append_eq_nil_iff.1 h).1
    have h2 := (List.append_eq_nil_iff.1 h).2
    have e1 : u / 1000000 = 0 := by
      unfold wholeD at h1
      split at h1
      · assumption
      · exact absurd h1 (decDigits_ne _)
    have e2 : u % 1000000 = 0 := by
      unfold fracD at h2
      split at h2
      · assumption
      · simp at h2
    omega
theorem numText_ne (n : Int) : numText n ≠ [] := by
  unfold numText
  split
  · simp
  · exact textAbs_ne _

/-- Is a text the text of its number? -/
def canon (l : List UInt8) : Bool := decide (numText (numOf l) = l)
theorem canon_spec (l : List UInt8) : (decide (l ≠ []) && decide (l.length ≤ 21) && decide (numText (numOf l) = l)) = canon l := by
  unfold canon
  by_cases h : numText (numOf l) = l
  · have h1 := numText_ne (numOf l)
    have h2 := numText_length (numOf_le l).1 (numOf_le l).2
    rw [h] at h1 h2
    have h3 : l.length ≤ 21 := by omega
    simp [h, h1, h3]
  · simp [h]
theorem canon_inj {a b : List UInt8} (ha : canon a = true) (hb : canon b = true) (h : numOf a = numOf b) : a = b := by
  rw [← of_decide_eq_true ha, ← of_decide_eq_true hb, h]

/-- The fraction has a digit other than 0. -/
theorem frac_last {r : Nat} (h0 : r ≠ 0) (h : r < 1000000) : ∃ b ∈ (decDigits (1000000 + r)).drop 1, b ≠ 48 := by
  have hn : nDigits (1000000 + r) = 7 := Go.Lib.nDigits_unique 6 (1000000 + r) (by omega) (by omega)
  have hd : (decDigits (1000000 + r)).drop 1 = [Go.Lib.dg (1000000 + r) 5, Go.Lib.dg (1000000 + r) 4, Go.Lib.dg (1000000 + r) 3, Go.Lib.dg (1000000 + r) 2, Go.Lib.dg (1000000 + r) 1, Go.Lib.dg (1000000 + r) 0] := by
    rw [Go.Lib.decDigits_eq, hn]; rfl
  have key : ∀ j, Go.Lib.dg (1000000 + r) j = 48 → (1000000 + r) / 10 ^ j % 10 = 0 := by
    intro j hj
    have := congrArg UInt8.toNat hj
    simp only [Go.Lib.dg] at this
    rw [UInt8.toNat_ofNat'] at this
    have h2 : (48 : UInt8).toNat = 48 := rfl
    rw [h2] at this
    omega
  rw [hd]
  apply Classical.byContradiction
  intro hc
  have hall : ∀ b ∈ [Go.Lib.dg (1000000 + r) 5, Go.Lib.dg (1000000 + r) 4, Go.Lib.dg (1000000 + r) 3, Go.Lib.dg (1000000 + r) 2, Go.Lib.dg (1000000 + r) 1, Go.Lib.dg (1000000 + r) 0], b = 48 := by
    intro b hb
    apply Classical.byContradiction
    intro hn
    exact hc ⟨b, hb, hn⟩
  have k5 := key 5 (hall _ (by simp))
  have k4 := key 4 (hall _ (by simp))
  have k3 := key 3 (hall _ (by simp))
  have k2 := key 2 (hall _ (by simp))
  have k1 := key 1 (hall _ (by simp))
  have k0 := key 0 (hall _ (by simp))
  simp only [Nat.reducePow] at k5 k4 k3 k2 k1 k0
  omega
end Go.AW
