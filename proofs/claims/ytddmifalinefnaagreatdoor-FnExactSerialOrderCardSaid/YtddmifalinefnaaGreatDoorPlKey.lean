/-
 The order of texts and of lists of texts, as both programs reckon it. Nothing of any program.
-/
import Derived.Test.YtddmifalinefnaaGreatDoorPlNum
import GoSem.Op.String
namespace Go.AW
set_option linter.unusedSimpArgs false
open List
def before (a b : List UInt8) : Bool := if db_ a && db_ b then decide (bJ_ a < bJ_ b) else if db_ a != db_ b then db_ a else Op.bytesLess a b
def cE_ (n j : Nat) : UInt8 := UInt8.ofNat (n / 256 ^ j % 256)
def be8 (n : Nat) : List UInt8 := [cE_ n 7, cE_ n 6, cE_ n 5, cE_ n 4, cE_ n 3, cE_ n 2, cE_ n 1, cE_ n 0]
def bK_ (acc : Nat) (l : List UInt8) : Nat := l.foldl (fun a b => a * 256 + b.toNat) acc
theorem iD_ (n j : Nat) : (cE_ n j).toNat = n / 256 ^ j % 256 := by
 unfold cE_; rw [UInt8.toNat_ofNat']; omega
theorem mK_ (n : Nat) (h : n < 18446744073709551616) : bK_ 0 (be8 n) = n := by
 simp only [bK_, be8, foldl_cons, foldl_nil, iD_, Nat.reducePow]
 omega
theorem nP_ (acc : Nat) : bK_ acc [] = acc := by unfold bK_; rw [foldl_nil]
theorem q8_ (acc : Nat) (b : UInt8) (l : List UInt8) : bK_ acc (b :: l) = bK_ (acc * 256 + b.toNat) l := by unfold bK_; rw [foldl_cons]
theorem lo_ : ∀ (l : List UInt8) (acc : Nat), bK_ acc l < (acc + 1) * 256 ^ l.length
 | [], acc => by rw [nP_]; simp
 | b :: l, acc => by
  rw [q8_]
  have h := lo_ l (acc * 256 + b.toNat)
  have hb := b.toNat_lt
  have h2 : (acc * 256 + b.toNat + 1) * 256 ^ l.length ≤ ((acc + 1) * 256) * 256 ^ l.length := Nat.mul_le_mul_right _ (by omega)
  rw [List.length_cons, Nat.pow_succ, Nat.mul_comm (256 ^ l.length), ← Nat.mul_assoc]
  omega
def esc : List UInt8 → List UInt8
 | [] => []
 | b :: l => if b = 0 then 0 :: 255 :: esc l else b :: esc l
def cy_ (l : List UInt8) : Nat := (bJ_ l + 1000000000000000000).toNat
def bT_ (l : List UInt8) : List UInt8 := if db_ l then 1 :: be8 (cy_ l) else 2 :: (esc l ++ [0, 0])
def b7_ (xs : List (List UInt8)) : List UInt8 := xs.flatMap bT_
theorem nB_ : b7_ [] = [] := rfl
theorem md_ (x : List UInt8) (xs : List (List UInt8)) : b7_ (x :: xs) = bT_ x ++ b7_ xs := rfl
theorem rc_ (l : List UInt8) : bT_ l ≠ [] := by unfold bT_; split <;> simp
theorem g9_ (l : List UInt8) : 1 ≤ cy_ l ∧ cy_ l ≤ 1999999999999999999 := by
 have := dM_ l
 unfold cy_; omega
theorem gN_ (l : List UInt8) : ((cy_ l : Nat) : Int) = bJ_ l + 1000000000000000000 := by
 have := dM_ l
 unfold cy_; omega
theorem il_ : ∀ l : List UInt8, (esc l).length ≤ 2 * l.length
 | [] => by simp [esc]
 | b :: l => by
  have := il_ l
  unfold esc
  split <;> simp only [List.length_cons] <;> omega
theorem ix_ (l : List UInt8) : (bT_ l).length ≤ 2 * l.length + 9 := by
 have := il_ l
 unfold bT_
 split
 ·simp [be8]
 ·simp only [List.length_cons, List.length_append, List.length_nil]; omega
def bO_ : List UInt8 → List UInt8 → Option (List UInt8 × List UInt8)
 | b :: c :: r, acc => if b = 0 then (if c = 0 then some (acc, r) else if c = 255 then bO_ r (acc ++ [0]) else none) else bO_ (c :: r) (acc ++ [b])
 | [_], _ => none
 | [], _ => none
theorem fW_ (b c : UInt8) (r acc : List UInt8) : bO_ (b :: c :: r) acc = if b = 0 then (if c = 0 then some (acc, r) else if c = 255 then bO_ r (acc ++ [0]) else none) else bO_ (c :: r) (acc ++ [b]) := by
 rw [bO_]
theorem n8_ (l acc : List UInt8) (h : l.length < 2) : bO_ l acc = none := by
 match l, h with
 | [], _ => rw [bO_]
 | [_], _ => rw [bO_]
theorem ky_ (l acc : List UInt8) (i : Nat) (h : i + 1 < l.length) : bO_ (l.drop i) acc = if l[i] = 0 then (if l[i + 1] = 0 then some (acc, l.drop (i + 2)) else if l[i + 1] = 255 then bO_ (l.drop (i + 2)) (acc ++ [0]) else none) else bO_ (l.drop (i + 1)) (acc ++ [l[i]]) := by
 rw [drop_eq_getElem_cons (by omega : i < l.length), drop_eq_getElem_cons h, fW_]
theorem l7_ (l acc : List UInt8) (i : Nat) (h : l.length ≤ i + 1) : bO_ (l.drop i) acc = none :=
 n8_ _ _ (by rw [length_drop]; omega)
theorem gO_ : ∀ (l acc t r : List UInt8), bO_ l acc = some (t, r) → t.length ≤ acc.length + l.length ∧ r.length ≤ l.length
 | [], acc, t, r, h => by rw [bO_] at h; cases h
 | [_], acc, t, r, h => by rw [bO_] at h; cases h
 | b :: c :: l, acc, t, r, h => by
  rw [fW_] at h
  split at h
  ·split at h
   ·simp only [Option.some.injEq, Prod.mk.injEq] at h
    obtain ⟨rfl, rfl⟩ := h
    simp only [List.length_cons]; omega
   ·split at h
    ·have := gO_ l _ t r h
     simp only [List.length_append, List.length_cons, List.length_nil] at this ⊢; omega
    ·cases h
  ·have := gO_ (c :: l) _ t r h
   simp only [List.length_append, List.length_cons, List.length_nil] at this ⊢; omega
theorem iM_ : ∀ (x rest acc : List UInt8), bO_ (esc x ++ (0 :: 0 :: rest)) acc = some (acc ++ x, rest)
 | [], rest, acc => by
  rw [esc, nil_append, fW_, if_pos rfl, if_pos rfl, append_nil]
 | b :: x, rest, acc => by
  have ih := iM_ x rest (acc ++ [b])
  by_cases h : b = 0
  ·subst h
   rw [esc, if_pos rfl, cons_append, cons_append, fW_, if_pos rfl, if_neg (by decide), if_pos rfl, ih, append_assoc]
   rfl
  ·rw [esc, if_neg h, cons_append]
   cases hq : esc x ++ (0 :: 0 :: rest) with
   | nil => simp at hq
   | cons c r => rw [fW_, if_neg h, ← hq, ih, append_assoc]; rfl
def fC_ (n : Int) : List UInt8 := if -999999999999999999 ≤ n ∧ n ≤ 999999999999999999 then bw_ n else []
def cV_ : List UInt8 → Option (List UInt8 × List UInt8)
 | [] => none
 | b :: l => if b = 1 then (if l.length < 8 then none else if 2000000000000000000 < bK_ 0 (l.take 8) then none else some (fC_ ((bK_ 0 (l.take 8) : Int) - 1000000000000000000), l.drop 8))
  else if b = 2 then bO_ l [] else none
def cG_ : List UInt8 → Option (List UInt8 × List UInt8)
 | [] => none
 | b :: l => if b = 1 ∧ 8 ≤ l.length then (if 1 ≤ bK_ 0 (l.take 8) ∧ bK_ 0 (l.take 8) ≤ 1999999999999999999 then some (bw_ ((bK_ 0 (l.take 8) : Int) - 1000000000000000000), l.drop 8) else none)
  else if b = 2 then bO_ l [] else none
theorem dc_ (n : Nat) : (be8 n).length = 8 := rfl
theorem nK_ (n : Nat) (r : List UInt8) : (be8 n ++ r).take 8 = be8 n := take_left' (dc_ n)
theorem nW_ (n : Nat) (r : List UInt8) : (be8 n ++ r).drop 8 = r := drop_left' (dc_ n)
theorem i2_ (x r : List UInt8) : cV_ (bT_ x ++ r) = some (x, r) := by
 unfold bT_
 by_cases h : db_ x = true
 ·have hk := g9_ x
  have hq := gN_ x
  rw [if_pos h, cons_append, cV_, if_pos rfl, if_neg (by simp [dc_]), nK_, nW_, mK_ _ (by omega), if_neg (by omega)]
  have e : ((cy_ x : Nat) : Int) - 1000000000000000000 = bJ_ x := by omega
  have hn := dM_ x
  rw [e, fC_, if_pos hn, of_decide_eq_true (by exact h : decide (bw_ (bJ_ x) = x) = true)]
 ·rw [if_neg h, cons_append, cV_, if_neg (by decide), if_pos rfl, append_assoc]
  exact iM_ x r []
theorem l4_ (x r : List UInt8) : cG_ (bT_ x ++ r) = some (x, r) := by
 unfold bT_
 by_cases h : db_ x = true
 ·have hk := g9_ x
  have hq := gN_ x
  rw [if_pos h, cons_append, cG_, if_pos ⟨rfl, by simp [dc_]⟩, nK_, nW_, mK_ _ (by omega), if_pos (by omega)]
  have e : ((cy_ x : Nat) : Int) - 1000000000000000000 = bJ_ x := by omega
  rw [e, of_decide_eq_true (by exact h : decide (bw_ (bJ_ x) = x) = true)]
 ·rw [if_neg h, cons_append, cG_, if_neg (by rintro ⟨q, _⟩; exact absurd q (by decide)), if_pos rfl, append_assoc]
  exact iM_ x r []
theorem lW_ (l t r : List UInt8) (h : cV_ l = some (t, r)) : t.length ≤ l.length + 20 ∧ r.length < l.length := by
 cases l with
 | nil => cases h
 | cons b l =>
  rw [cV_] at h
  split at h
  ·split at h
   ·cases h
   ·split at h
    ·cases h
    ·simp only [Option.some.injEq, Prod.mk.injEq] at h
     obtain ⟨rfl, rfl⟩ := h
     refine ⟨?_, by simp only [length_drop, List.length_cons]; omega⟩
     unfold fC_
     split
     ·rename_i q; have := fF_ q.1 q.2; simp only [List.length_cons]; omega
     ·simp
  ·split at h
   ·have := gO_ l [] t r h
    simp only [List.length_nil, List.length_cons] at this ⊢; omega
   ·cases h
theorem rb_ (l t r : List UInt8) (h : cG_ l = some (t, r)) : t.length ≤ l.length + 20 ∧ r.length < l.length := by
 cases l with
 | nil => cases h
 | cons b l =>
  rw [cG_] at h
  split at h
  ·split at h
   ·rename_i q
    simp only [Option.some.injEq, Prod.mk.injEq] at h
    obtain ⟨rfl, rfl⟩ := h
    refine ⟨?_, by simp only [length_drop, List.length_cons]; omega⟩
    have := fF_ (n := (bK_ 0 (l.take 8) : Int) - 1000000000000000000) (by omega) (by omega)
    simp only [List.length_cons]; omega
   ·cases h
  ·split at h
   ·have := gO_ l [] t r h
    simp only [List.length_nil, List.length_cons] at this ⊢; omega
   ·cases h
def vK_ (x : List UInt8) : Bool := decide (1 ≤ x.length) && decide (x.length ≤ 24)
def dL_ (xs : List (List UInt8)) : Bool := decide (xs.length ≤ 4) && xs.all vK_
def cb_ (take : List UInt8 → Option (List UInt8 × List UInt8)) : Nat → List UInt8 → List (List UInt8) → Option (List (List UInt8) × List UInt8)
 | 0, left, out => some (out, left)
 | f + 1, left, out => if left = [] then some (out, left) else match take left with
  | none => none
  | some (t, r) => cb_ take f r (out ++ [t])
def eP_ (take : List UInt8 → Option (List UInt8 × List UInt8)) (s : List UInt8) : Option (List (List UInt8)) :=
 match cb_ take 5 s [] with
 | none => none
 | some (out, left) => if left = [] ∧ dL_ out = true ∧ b7_ out = s then some out else none
theorem m3_ {take : List UInt8 → Option (List UInt8 × List UInt8)} (hA : ∀ x r, take (bT_ x ++ r) = some (x, r)) : ∀ (xs : List (List UInt8)) (f : Nat) (out : List (List UInt8)), xs.length ≤ f → cb_ take f (b7_ xs) out = some (out ++ xs, [])
 | [], 0, out, _ => by rw [cb_, nB_, append_nil]
 | [], f + 1, out, _ => by rw [cb_, nB_, if_pos rfl, append_nil]
 | x :: xs, 0, out, h => by simp at h
 | x :: xs, f + 1, out, h => by
  rw [cb_, md_, if_neg (by simp [rc_]), hA]
  simp only
  rw [m3_ hA xs f _ (by simpa using h), append_assoc]; rfl
theorem gy_ {take : List UInt8 → Option (List UInt8 × List UInt8)} (hA : ∀ x r, take (bT_ x ++ r) = some (x, r)) (s : List UInt8) (xs : List (List UInt8)) : eP_ take s = some xs ↔ dL_ xs = true ∧ b7_ xs = s := by
 constructor
 ·intro h
  unfold eP_ at h
  split at h
  ·cases h
  ·rename_i out left _
   split at h
   ·rename_i q
    simp only [Option.some.injEq] at h
    subst h
    exact q.2
   ·cases h
 ·rintro ⟨h1, h2⟩
  have hl : xs.length ≤ 4 := by simp only [dL_, Bool.and_eq_true, decide_eq_true_eq] at h1; exact h1.1
  have := m3_ hA xs 5 [] (by omega)
  rw [h2, nil_append] at this
  unfold eP_
  rw [this]
  simp only
  rw [if_pos ⟨trivial, h1, h2⟩]
theorem iQ_ (s : List UInt8) : eP_ cV_ s = eP_ cG_ s := by
 cases h : eP_ cG_ s with
 | some xs => exact (gy_ i2_ s xs).2 ((gy_ l4_ s xs).1 h)
 | none =>
  cases h2 : eP_ cV_ s with
  | none => rfl
  | some xs =>
   have := (gy_ l4_ s xs).2 ((gy_ i2_ s xs).1 h2)
   rw [h] at this; cases this
end Go.AW
