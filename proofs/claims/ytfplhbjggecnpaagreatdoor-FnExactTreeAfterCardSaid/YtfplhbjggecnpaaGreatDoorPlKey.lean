/-
 The order of texts and of lists of texts, as both programs reckon it. Nothing of any program.
-/
import Derived.Test.YtfplhbjggecnpaaGreatDoorPlNum
import GoSem.Op.String
namespace Go.AW
set_option linter.unusedSimpArgs false
open List
theorem eS_ : ∀ a : List UInt8, Op.bytesLess a a = false
 | [] => rfl
 | x :: a => by simp [Op.bytesLess, eS_ a, UInt8.lt_irrefl]
theorem hN_ : ∀ a b : List UInt8, Op.bytesLess a b = false → Op.bytesLess b a = false → a = b
 | [], [], _, _ => rfl
 | [], _ :: _, h, _ => by simp [Op.bytesLess] at h
 | _ :: _, [], _, h => by simp [Op.bytesLess] at h
 | x :: a, y :: b, h1, h2 => by
  simp only [Op.bytesLess, Bool.or_eq_false_iff, Bool.and_eq_false_iff, decide_eq_false_iff_not, beq_eq_false_iff_ne] at h1 h2
  have e : x = y := UInt8.le_antisymm (UInt8.not_lt.1 h2.1) (UInt8.not_lt.1 h1.1)
  subst e
  rw [hN_ a b (by simpa using h1.2) (by simpa using h2.2)]
theorem mq_ : ∀ a b : List UInt8, Op.bytesLess a b = true → Op.bytesLess b a = false
 | [], [], h => by simp [Op.bytesLess] at h
 | [], _ :: _, _ => rfl
 | _ :: _, [], h => by simp [Op.bytesLess] at h
 | x :: a, y :: b, h => by
  simp only [Op.bytesLess, Bool.or_eq_true, Bool.and_eq_true, decide_eq_true_eq, beq_iff_eq] at h
  simp only [Op.bytesLess, Bool.or_eq_false_iff, Bool.and_eq_false_iff, decide_eq_false_iff_not, beq_eq_false_iff_ne]
  rcases h with h | ⟨h, k⟩
  ·exact ⟨fun q => UInt8.lt_irrefl x (UInt8.lt_trans h q), .inl fun e => by subst e; exact UInt8.lt_irrefl _ h⟩
  ·subst h
   exact ⟨UInt8.lt_irrefl _, .inr (mq_ a b k)⟩
def i2_ (a b : List UInt8) : Int := if Op.bytesLess a b then -1 else if Op.bytesLess b a then 1 else 0
def k7_ (a b : Int) : Int := if a < b then -1 else if b < a then 1 else 0
theorem hi_ (a b : List UInt8) : i2_ a b = 0 ↔ a = b := by
 unfold i2_
 constructor
 ·intro h
  split at h
  ·simp at h
  ·split at h
   ·simp at h
   ·exact hN_ a b (by simpa using ‹¬ Op.bytesLess a b = true›) (by simpa using ‹¬ Op.bytesLess b a = true›)
 ·rintro rfl; simp [eS_]
theorem pP_ (a b : List UInt8) : i2_ a b < 0 ↔ Op.bytesLess a b = true := by
 unfold i2_
 split
 ·simp_all
 ·split <;> simp_all
theorem tp_ (a b : Int) : k7_ a b = 0 ↔ a = b := by
 unfold k7_
 split
 ·omega
 ·split <;> omega
theorem vF_ (a b : Int) : k7_ a b < 0 ↔ a < b := by
 unfold k7_
 split
 ·omega
 ·split <;> omega
def dj_ (a b : List UInt8) : Int := if b1_ a && b1_ b then k7_ (bU_ a) (bU_ b) else if b1_ a then -1 else if b1_ b then 1 else i2_ a b
def before (a b : List UInt8) : Bool := if b1_ a && b1_ b then decide (bU_ a < bU_ b) else if b1_ a != b1_ b then b1_ a else Op.bytesLess a b
theorem e3_ (a b : List UInt8) : dj_ a b = 0 ↔ a = b := by
 unfold dj_
 cases ha : b1_ a <;> cases hb : b1_ b <;> simp only [Bool.and_true, Bool.and_false, Bool.false_eq_true, if_true, if_false]
 ·exact hi_ a b
 ·constructor
  ·intro h; simp at h
  ·rintro rfl; rw [ha] at hb; simp at hb
 ·constructor
  ·intro h; simp at h
  ·rintro rfl; rw [ha] at hb; simp at hb
 ·rw [tp_]
  exact ⟨tb_ ha hb, fun h => by rw [h]⟩
theorem i1_ (a b : List UInt8) : dj_ a b < 0 ↔ before a b = true := by
 unfold dj_ before
 cases ha : b1_ a <;> cases hb : b1_ b <;> simp only [Bool.and_true, Bool.and_false, Bool.false_eq_true, if_true, if_false, bne_self_eq_false]
 ·exact pP_ a b
 ·simp
 ·simp
 ·rw [vF_]; simp
def fA_ : List (List UInt8) → List (List UInt8) → Int
 | [], [] => 0
 | [], _ :: _ => -1
 | _ :: _, [] => 1
 | x :: xs, y :: ys => if dj_ x y = 0 then fA_ xs ys else dj_ x y
def cf_ : List (List UInt8) → List (List UInt8) → Bool
 | [], [] => false
 | [], _ :: _ => true
 | _ :: _, [] => false
 | x :: xs, y :: ys => if x = y then cf_ xs ys else before x y
theorem mf_ : ∀ xs ys, fA_ xs ys < 0 ↔ cf_ xs ys = true
 | [], [] => by simp [fA_, cf_]
 | [], _ :: _ => by simp [fA_, cf_]
 | _ :: _, [] => by simp [fA_, cf_]
 | x :: xs, y :: ys => by
  simp only [fA_, cf_]
  by_cases h : x = y
  ·rw [if_pos ((e3_ x y).2 h), if_pos h]; exact mf_ xs ys
  ·rw [if_neg (fun q => h ((e3_ x y).1 q)), if_neg h]; exact i1_ x y
theorem oe_ : ∀ xs ys, fA_ xs ys = 0 ↔ xs = ys
 | [], [] => by simp [fA_]
 | [], _ :: _ => by simp [fA_]
 | _ :: _, [] => by simp [fA_]
 | x :: xs, y :: ys => by
  simp only [fA_]
  by_cases h : x = y
  ·rw [if_pos ((e3_ x y).2 h), oe_ xs ys]; simp [h]
  ·have := fun q => h ((e3_ x y).1 q)
   rw [if_neg this]; simp only [List.cons.injEq, h, false_and, iff_false]; exact this
def gW_ (n : List UInt8) (s : List (List UInt8)) (o : List UInt8) (os : List (List UInt8)) : Int := if i2_ n o = 0 then fA_ s os else i2_ n o
def d0_ (n : List UInt8) (s : List (List UInt8)) (o : List UInt8) (os : List (List UInt8)) : Bool := if n = o then cf_ s os else Op.bytesLess n o
theorem ph_ (n : List UInt8) (s : List (List UInt8)) (o : List UInt8) (os : List (List UInt8)) : gW_ n s o os < 0 ↔ d0_ n s o os = true := by
 unfold gW_ d0_
 by_cases h : n = o
 ·rw [if_pos ((hi_ n o).2 h), if_pos h]; exact mf_ s os
 ·rw [if_neg (fun q => h ((hi_ n o).1 q)), if_neg h]; exact pP_ n o
theorem th_ (n : List UInt8) (s : List (List UInt8)) (o : List UInt8) (os : List (List UInt8)) : gW_ n s o os = 0 ↔ n = o ∧ s = os := by
 unfold gW_
 by_cases h : n = o
 ·rw [if_pos ((hi_ n o).2 h), oe_]; simp [h]
 ·have := fun q => h ((hi_ n o).1 q)
  rw [if_neg this]; simp only [h, false_and, iff_false]; exact this
def do_ (n j : Nat) : UInt8 := UInt8.ofNat (n / 256 ^ j % 256)
def be8 (n : Nat) : List UInt8 := [do_ n 7, do_ n 6, do_ n 5, do_ n 4, do_ n 3, do_ n 2, do_ n 1, do_ n 0]
def cr_ (acc : Nat) (l : List UInt8) : Nat := l.foldl (fun a b => a * 256 + b.toNat) acc
theorem ks_ (n j : Nat) : (do_ n j).toNat = n / 256 ^ j % 256 := by
 unfold do_; rw [UInt8.toNat_ofNat']; omega
theorem pd_ (n : Nat) (h : n < 18446744073709551616) : cr_ 0 (be8 n) = n := by
 simp only [cr_, be8, foldl_cons, foldl_nil, ks_, Nat.reducePow]
 omega
theorem pS_ (acc : Nat) : cr_ acc [] = acc := by unfold cr_; rw [foldl_nil]
theorem tA_ (acc : Nat) (b : UInt8) (l : List UInt8) : cr_ acc (b :: l) = cr_ (acc * 256 + b.toNat) l := by unfold cr_; rw [foldl_cons]
theorem nO_ : ∀ (l : List UInt8) (acc : Nat), cr_ acc l < (acc + 1) * 256 ^ l.length
 | [], acc => by rw [pS_]; simp
 | b :: l, acc => by
  rw [tA_]
  have h := nO_ l (acc * 256 + b.toNat)
  have hb := b.toNat_lt
  have h2 : (acc * 256 + b.toNat + 1) * 256 ^ l.length ≤ ((acc + 1) * 256) * 256 ^ l.length := Nat.mul_le_mul_right _ (by omega)
  rw [List.length_cons, Nat.pow_succ, Nat.mul_comm (256 ^ l.length), ← Nat.mul_assoc]
  omega
def esc : List UInt8 → List UInt8
 | [] => []
 | b :: l => if b = 0 then 0 :: 255 :: esc l else b :: esc l
def di_ (l : List UInt8) : Nat := (bU_ l + 1000000000000000000).toNat
def cx_ (l : List UInt8) : List UInt8 := if b1_ l then 1 :: be8 (di_ l) else 2 :: (esc l ++ [0, 0])
def cU_ (xs : List (List UInt8)) : List UInt8 := xs.flatMap cx_
theorem pc_ : cU_ [] = [] := rfl
theorem nS_ (x : List UInt8) (xs : List (List UInt8)) : cU_ (x :: xs) = cx_ x ++ cU_ xs := rfl
theorem uc_ (l : List UInt8) : cx_ l ≠ [] := by unfold cx_; split <;> simp
theorem iw_ (l : List UInt8) : 1 ≤ di_ l ∧ di_ l ≤ 1999999999999999999 := by
 have := eG_ l
 unfold di_; omega
theorem ik_ (l : List UInt8) : ((di_ l : Nat) : Int) = bU_ l + 1000000000000000000 := by
 have := eG_ l
 unfold di_; omega
theorem jW_ : ∀ l : List UInt8, (esc l).length ≤ 2 * l.length
 | [] => by simp [esc]
 | b :: l => by
  have := jW_ l
  unfold esc
  split <;> simp only [List.length_cons] <;> omega
theorem kf_ (l : List UInt8) : (cx_ l).length ≤ 2 * l.length + 9 := by
 have := jW_ l
 unfold cx_
 split
 ·simp [be8]
 ·simp only [List.length_cons, List.length_append, List.length_nil]; omega
def cs_ : List UInt8 → List UInt8 → Option (List UInt8 × List UInt8)
 | b :: c :: r, acc => if b = 0 then (if c = 0 then some (acc, r) else if c = 255 then cs_ r (acc ++ [0]) else none) else cs_ (c :: r) (acc ++ [b])
 | [_], _ => none
 | [], _ => none
theorem hl_ (b c : UInt8) (r acc : List UInt8) : cs_ (b :: c :: r) acc = if b = 0 then (if c = 0 then some (acc, r) else if c = 255 then cs_ r (acc ++ [0]) else none) else cs_ (c :: r) (acc ++ [b]) := by
 rw [cs_]
theorem rg_ (l acc : List UInt8) (h : l.length < 2) : cs_ l acc = none := by
 match l, h with
 | [], _ => rw [cs_]
 | [_], _ => rw [cs_]
theorem mo_ (l acc : List UInt8) (i : Nat) (h : i + 1 < l.length) : cs_ (l.drop i) acc = if l[i] = 0 then (if l[i + 1] = 0 then some (acc, l.drop (i + 2)) else if l[i + 1] = 255 then cs_ (l.drop (i + 2)) (acc ++ [0]) else none) else cs_ (l.drop (i + 1)) (acc ++ [l[i]]) := by
 rw [drop_eq_getElem_cons (by omega : i < l.length), drop_eq_getElem_cons h, hl_]
theorem od_ (l acc : List UInt8) (i : Nat) (h : l.length ≤ i + 1) : cs_ (l.drop i) acc = none :=
 rg_ _ _ (by rw [length_drop]; omega)
theorem iD_ : ∀ (l acc t r : List UInt8), cs_ l acc = some (t, r) → t.length ≤ acc.length + l.length ∧ r.length ≤ l.length
 | [], acc, t, r, h => by rw [cs_] at h; cases h
 | [_], acc, t, r, h => by rw [cs_] at h; cases h
 | b :: c :: l, acc, t, r, h => by
  rw [hl_] at h
  split at h
  ·split at h
   ·simp only [Option.some.injEq, Prod.mk.injEq] at h
    obtain ⟨rfl, rfl⟩ := h
    simp only [List.length_cons]; omega
   ·split at h
    ·have := iD_ l _ t r h
     simp only [List.length_append, List.length_cons, List.length_nil] at this ⊢; omega
    ·cases h
  ·have := iD_ (c :: l) _ t r h
   simp only [List.length_append, List.length_cons, List.length_nil] at this ⊢; omega
theorem kw_ : ∀ (x rest acc : List UInt8), cs_ (esc x ++ (0 :: 0 :: rest)) acc = some (acc ++ x, rest)
 | [], rest, acc => by
  rw [esc, nil_append, hl_, if_pos rfl, if_pos rfl, append_nil]
 | b :: x, rest, acc => by
  have ih := kw_ x rest (acc ++ [b])
  by_cases h : b = 0
  ·subst h
   rw [esc, if_pos rfl, cons_append, cons_append, hl_, if_pos rfl, if_neg (by decide), if_pos rfl, ih, append_assoc]
   rfl
  ·rw [esc, if_neg h, cons_append]
   cases hq : esc x ++ (0 :: 0 :: rest) with
   | nil => simp at hq
   | cons c r => rw [hl_, if_neg h, ← hq, ih, append_assoc]; rfl
def gT_ (n : Int) : List UInt8 := if -999999999999999999 ≤ n ∧ n ≤ 999999999999999999 then bZ_ n else []
def dV_ : List UInt8 → Option (List UInt8 × List UInt8)
 | [] => none
 | b :: l => if b = 1 then (if l.length < 8 then none else if 2000000000000000000 < cr_ 0 (l.take 8) then none else some (gT_ ((cr_ 0 (l.take 8) : Int) - 1000000000000000000), l.drop 8))
  else if b = 2 then cs_ l [] else none
def dr_ : List UInt8 → Option (List UInt8 × List UInt8)
 | [] => none
 | b :: l => if b = 1 ∧ 8 ≤ l.length then (if 1 ≤ cr_ 0 (l.take 8) ∧ cr_ 0 (l.take 8) ≤ 1999999999999999999 then some (bZ_ ((cr_ 0 (l.take 8) : Int) - 1000000000000000000), l.drop 8) else none)
  else if b = 2 then cs_ l [] else none
theorem d8_ (n : Nat) : (be8 n).length = 8 := rfl
theorem qh_ (n : Nat) (r : List UInt8) : (be8 n ++ r).take 8 = be8 n := take_left' (d8_ n)
theorem pC_ (n : Nat) (r : List UInt8) : (be8 n ++ r).drop 8 = r := drop_left' (d8_ n)
theorem kS_ (x r : List UInt8) : dV_ (cx_ x ++ r) = some (x, r) := by
 unfold cx_
 by_cases h : b1_ x = true
 ·have hk := iw_ x
  have hq := ik_ x
  rw [if_pos h, cons_append, dV_, if_pos rfl, if_neg (by simp [d8_]), qh_, pC_, pd_ _ (by omega), if_neg (by omega)]
  have e : ((di_ x : Nat) : Int) - 1000000000000000000 = bU_ x := by omega
  have hn := eG_ x
  rw [e, gT_, if_pos hn, of_decide_eq_true (by exact h : decide (bZ_ (bU_ x) = x) = true)]
 ·rw [if_neg h, cons_append, dV_, if_neg (by decide), if_pos rfl, append_assoc]
  exact kw_ x r []
theorem nX_ (x r : List UInt8) : dr_ (cx_ x ++ r) = some (x, r) := by
 unfold cx_
 by_cases h : b1_ x = true
 ·have hk := iw_ x
  have hq := ik_ x
  rw [if_pos h, cons_append, dr_, if_pos ⟨rfl, by simp [d8_]⟩, qh_, pC_, pd_ _ (by omega), if_pos (by omega)]
  have e : ((di_ x : Nat) : Int) - 1000000000000000000 = bU_ x := by omega
  rw [e, of_decide_eq_true (by exact h : decide (bZ_ (bU_ x) = x) = true)]
 ·rw [if_neg h, cons_append, dr_, if_neg (by rintro ⟨q, _⟩; exact absurd q (by decide)), if_pos rfl, append_assoc]
  exact kw_ x r []
theorem ok_ (l t r : List UInt8) (h : dV_ l = some (t, r)) : t.length ≤ l.length + 20 ∧ r.length < l.length := by
 cases l with
 | nil => cases h
 | cons b l =>
  rw [dV_] at h
  split at h
  ·split at h
   ·cases h
   ·split at h
    ·cases h
    ·simp only [Option.some.injEq, Prod.mk.injEq] at h
     obtain ⟨rfl, rfl⟩ := h
     refine ⟨?_, by simp only [length_drop, List.length_cons]; omega⟩
     unfold gT_
     split
     ·rename_i q; have := gY_ q.1 q.2; simp only [List.length_cons]; omega
     ·simp
  ·split at h
   ·have := iD_ l [] t r h
    simp only [List.length_nil, List.length_cons] at this ⊢; omega
   ·cases h
theorem td_ (l t r : List UInt8) (h : dr_ l = some (t, r)) : t.length ≤ l.length + 20 ∧ r.length < l.length := by
 cases l with
 | nil => cases h
 | cons b l =>
  rw [dr_] at h
  split at h
  ·split at h
   ·rename_i q
    simp only [Option.some.injEq, Prod.mk.injEq] at h
    obtain ⟨rfl, rfl⟩ := h
    refine ⟨?_, by simp only [length_drop, List.length_cons]; omega⟩
    have := gY_ (n := (cr_ 0 (l.take 8) : Int) - 1000000000000000000) (by omega) (by omega)
    simp only [List.length_cons]; omega
   ·cases h
  ·split at h
   ·have := iD_ l [] t r h
    simp only [List.length_nil, List.length_cons] at this ⊢; omega
   ·cases h
def CV_ (x : List UInt8) : Bool := decide (1 ≤ x.length) && decide (x.length ≤ 24)
def eJ_ (xs : List (List UInt8)) : Bool := decide (xs.length ≤ 4) && xs.all CV_
def cV_ (take : List UInt8 → Option (List UInt8 × List UInt8)) : Nat → List UInt8 → List (List UInt8) → Option (List (List UInt8) × List UInt8)
 | 0, left, out => some (out, left)
 | f + 1, left, out => if left = [] then some (out, left) else match take left with
  | none => none
  | some (t, r) => cV_ take f r (out ++ [t])
def f2_ (take : List UInt8 → Option (List UInt8 × List UInt8)) (s : List UInt8) : Option (List (List UInt8)) :=
 match cV_ take 5 s [] with
 | none => none
 | some (out, left) => if left = [] ∧ eJ_ out = true ∧ cU_ out = s then some out else none
theorem qd_ {take : List UInt8 → Option (List UInt8 × List UInt8)} (hA : ∀ x r, take (cx_ x ++ r) = some (x, r)) : ∀ (xs : List (List UInt8)) (f : Nat) (out : List (List UInt8)), xs.length ≤ f → cV_ take f (cU_ xs) out = some (out ++ xs, [])
 | [], 0, out, _ => by rw [cV_, pc_, append_nil]
 | [], f + 1, out, _ => by rw [cV_, pc_, if_pos rfl, append_nil]
 | x :: xs, 0, out, h => by simp at h
 | x :: xs, f + 1, out, h => by
  rw [cV_, nS_, if_neg (by simp [uc_]), hA]
  simp only
  rw [qd_ hA xs f _ (by simpa using h), append_assoc]; rfl
theorem h7_ {take : List UInt8 → Option (List UInt8 × List UInt8)} (hA : ∀ x r, take (cx_ x ++ r) = some (x, r)) (s : List UInt8) (xs : List (List UInt8)) : f2_ take s = some xs ↔ eJ_ xs = true ∧ cU_ xs = s := by
 constructor
 ·intro h
  unfold f2_ at h
  split at h
  ·cases h
  ·rename_i out left _
   split at h
   ·rename_i q
    simp only [Option.some.injEq] at h
    subst h
    exact q.2
   ·cases h
 ·rintro ⟨h1, h2⟩
  have hl : xs.length ≤ 4 := by simp only [eJ_, Bool.and_eq_true, decide_eq_true_eq] at h1; exact h1.1
  have := qd_ hA xs 5 [] (by omega)
  rw [h2, nil_append] at this
  unfold f2_
  rw [this]
  simp only
  rw [if_pos ⟨trivial, h1, h2⟩]
theorem kF_ (s : List UInt8) : f2_ dV_ s = f2_ dr_ s := by
 cases h : f2_ dr_ s with
 | some xs => exact (h7_ kS_ s xs).2 ((h7_ nX_ s xs).1 h)
 | none =>
  cases h2 : f2_ dV_ s with
  | none => rfl
  | some xs =>
   have := (h7_ nX_ s xs).2 ((h7_ kS_ s xs).1 h2)
   rw [h] at this; cases this
end Go.AW
