/-
 The order of texts and of lists of texts, as both programs reckon it. Nothing of any program.
-/
import Derived.Test.YtddmifalinefnaaGreatDoorPlNum
import GoSem.Op.String
namespace Go.AW
set_option linter.unusedSimpArgs false
open List
def before (a b : List UInt8) : Bool := if cP_ a && cP_ b then decide (bz_ a < bz_ b) else if cP_ a != cP_ b then cP_ a else Op.bytesLess a b
def cn_ (n j : Nat) : UInt8 := UInt8.ofNat (n / 256 ^ j % 256)
def be8 (n : Nat) : List UInt8 := [cn_ n 7, cn_ n 6, cn_ n 5, cn_ n 4, cn_ n 3, cn_ n 2, cn_ n 1, cn_ n 0]
def bC_ (acc : Nat) (l : List UInt8) : Nat := l.foldl (fun a b => a * 256 + b.toNat) acc
theorem h7_ (n j : Nat) : (cn_ n j).toNat = n / 256 ^ j % 256 := by
 unfold cn_; rw [UInt8.toNat_ofNat']; omega
theorem l3_ (n : Nat) (h : n < 18446744073709551616) : bC_ 0 (be8 n) = n := by
 simp only [bC_, be8, foldl_cons, foldl_nil, h7_, Nat.reducePow]
 omega
theorem mC_ (acc : Nat) : bC_ acc [] = acc := by unfold bC_; rw [foldl_nil]
theorem pw_ (acc : Nat) (b : UInt8) (l : List UInt8) : bC_ acc (b :: l) = bC_ (acc * 256 + b.toNat) l := by unfold bC_; rw [foldl_cons]
theorem kD_ : ∀ (l : List UInt8) (acc : Nat), bC_ acc l < (acc + 1) * 256 ^ l.length
 | [], acc => by rw [mC_]; simp
 | b :: l, acc => by
  rw [pw_]
  have h := kD_ l (acc * 256 + b.toNat)
  have hb := b.toNat_lt
  have h2 : (acc * 256 + b.toNat + 1) * 256 ^ l.length ≤ ((acc + 1) * 256) * 256 ^ l.length := Nat.mul_le_mul_right _ (by omega)
  rw [List.length_cons, Nat.pow_succ, Nat.mul_comm (256 ^ l.length), ← Nat.mul_assoc]
  omega
def esc : List UInt8 → List UInt8
 | [] => []
 | b :: l => if b = 0 then 0 :: 255 :: esc l else b :: esc l
def ci_ (l : List UInt8) : Nat := (bz_ l + 1000000000000000000).toNat
def bH_ (l : List UInt8) : List UInt8 := if cP_ l then 1 :: be8 (ci_ l) else 2 :: (esc l ++ [0, 0])
def bW_ (xs : List (List UInt8)) : List UInt8 := xs.flatMap bH_
theorem lM_ : bW_ [] = [] := rfl
theorem kS_ (x : List UInt8) (xs : List (List UInt8)) : bW_ (x :: xs) = bH_ x ++ bW_ xs := rfl
theorem pB_ (l : List UInt8) : bH_ l ≠ [] := by unfold bH_; split <;> simp
theorem gf_ (l : List UInt8) : 1 ≤ ci_ l ∧ ci_ l ≤ 1999999999999999999 := by
 have := dn_ l
 unfold ci_; omega
theorem gm_ (l : List UInt8) : ((ci_ l : Nat) : Int) = bz_ l + 1000000000000000000 := by
 have := dn_ l
 unfold ci_; omega
theorem hc_ : ∀ l : List UInt8, (esc l).length ≤ 2 * l.length
 | [] => by simp [esc]
 | b :: l => by
  have := hc_ l
  unfold esc
  split <;> simp only [List.length_cons] <;> omega
theorem hI_ (l : List UInt8) : (bH_ l).length ≤ 2 * l.length + 9 := by
 have := hc_ l
 unfold bH_
 split
 ·simp [be8]
 ·simp only [List.length_cons, List.length_append, List.length_nil]; omega
def bF_ : List UInt8 → List UInt8 → Option (List UInt8 × List UInt8)
 | b :: c :: r, acc => if b = 0 then (if c = 0 then some (acc, r) else if c = 255 then bF_ r (acc ++ [0]) else none) else bF_ (c :: r) (acc ++ [b])
 | [_], _ => none
 | [], _ => none
theorem fu_ (b c : UInt8) (r acc : List UInt8) : bF_ (b :: c :: r) acc = if b = 0 then (if c = 0 then some (acc, r) else if c = 255 then bF_ r (acc ++ [0]) else none) else bF_ (c :: r) (acc ++ [b]) := by
 rw [bF_]
theorem ng_ (l acc : List UInt8) (h : l.length < 2) : bF_ l acc = none := by
 match l, h with
 | [], _ => rw [bF_]
 | [_], _ => rw [bF_]
theorem jH_ (l acc : List UInt8) (i : Nat) (h : i + 1 < l.length) : bF_ (l.drop i) acc = if l[i] = 0 then (if l[i + 1] = 0 then some (acc, l.drop (i + 2)) else if l[i + 1] = 255 then bF_ (l.drop (i + 2)) (acc ++ [0]) else none) else bF_ (l.drop (i + 1)) (acc ++ [l[i]]) := by
 rw [drop_eq_getElem_cons (by omega : i < l.length), drop_eq_getElem_cons h, fu_]
theorem kH_ (l acc : List UInt8) (i : Nat) (h : l.length ≤ i + 1) : bF_ (l.drop i) acc = none :=
 ng_ _ _ (by rw [length_drop]; omega)
theorem gg_ : ∀ (l acc t r : List UInt8), bF_ l acc = some (t, r) → t.length ≤ acc.length + l.length ∧ r.length ≤ l.length
 | [], acc, t, r, h => by rw [bF_] at h; cases h
 | [_], acc, t, r, h => by rw [bF_] at h; cases h
 | b :: c :: l, acc, t, r, h => by
  rw [fu_] at h
  split at h
  ·split at h
   ·simp only [Option.some.injEq, Prod.mk.injEq] at h
    obtain ⟨rfl, rfl⟩ := h
    simp only [List.length_cons]; omega
   ·split at h
    ·have := gg_ l _ t r h
     simp only [List.length_append, List.length_cons, List.length_nil] at this ⊢; omega
    ·cases h
  ·have := gg_ (c :: l) _ t r h
   simp only [List.length_append, List.length_cons, List.length_nil] at this ⊢; omega
theorem hU_ : ∀ (x rest acc : List UInt8), bF_ (esc x ++ (0 :: 0 :: rest)) acc = some (acc ++ x, rest)
 | [], rest, acc => by
  rw [esc, nil_append, fu_, if_pos rfl, if_pos rfl, append_nil]
 | b :: x, rest, acc => by
  have ih := hU_ x rest (acc ++ [b])
  by_cases h : b = 0
  ·subst h
   rw [esc, if_pos rfl, cons_append, cons_append, fu_, if_pos rfl, if_neg (by decide), if_pos rfl, ih, append_assoc]
   rfl
  ·rw [esc, if_neg h, cons_append]
   cases hq : esc x ++ (0 :: 0 :: rest) with
   | nil => simp at hq
   | cons c r => rw [fu_, if_neg h, ← hq, ih, append_assoc]; rfl
def e7_ (n : Int) : List UInt8 := if -999999999999999999 ≤ n ∧ n ≤ 999999999999999999 then bm_ n else []
def cE_ : List UInt8 → Option (List UInt8 × List UInt8)
 | [] => none
 | b :: l => if b = 1 then (if l.length < 8 then none else if 2000000000000000000 < bC_ 0 (l.take 8) then none else some (e7_ ((bC_ 0 (l.take 8) : Int) - 1000000000000000000), l.drop 8))
  else if b = 2 then bF_ l [] else none
def cp_ : List UInt8 → Option (List UInt8 × List UInt8)
 | [] => none
 | b :: l => if b = 1 ∧ 8 ≤ l.length then (if 1 ≤ bC_ 0 (l.take 8) ∧ bC_ 0 (l.take 8) ≤ 1999999999999999999 then some (bm_ ((bC_ 0 (l.take 8) : Int) - 1000000000000000000), l.drop 8) else none)
  else if b = 2 then bF_ l [] else none
theorem cQ_ (n : Nat) : (be8 n).length = 8 := rfl
theorem mD_ (n : Nat) (r : List UInt8) : (be8 n ++ r).take 8 = be8 n := take_left' (cQ_ n)
theorem mt_ (n : Nat) (r : List UInt8) : (be8 n ++ r).drop 8 = r := drop_left' (cQ_ n)
theorem ic_ (x r : List UInt8) : cE_ (bH_ x ++ r) = some (x, r) := by
 unfold bH_
 by_cases h : cP_ x = true
 ·have hk := gf_ x
  have hq := gm_ x
  rw [if_pos h, cons_append, cE_, if_pos rfl, if_neg (by simp [cQ_]), mD_, mt_, l3_ _ (by omega), if_neg (by omega)]
  have e : ((ci_ x : Nat) : Int) - 1000000000000000000 = bz_ x := by omega
  have hn := dn_ x
  rw [e, e7_, if_pos hn, of_decide_eq_true (by exact h : decide (bm_ (bz_ x) = x) = true)]
 ·rw [if_neg h, cons_append, cE_, if_neg (by decide), if_pos rfl, append_assoc]
  exact hU_ x r []
theorem k7_ (x r : List UInt8) : cp_ (bH_ x ++ r) = some (x, r) := by
 unfold bH_
 by_cases h : cP_ x = true
 ·have hk := gf_ x
  have hq := gm_ x
  rw [if_pos h, cons_append, cp_, if_pos ⟨rfl, by simp [cQ_]⟩, mD_, mt_, l3_ _ (by omega), if_pos (by omega)]
  have e : ((ci_ x : Nat) : Int) - 1000000000000000000 = bz_ x := by omega
  rw [e, of_decide_eq_true (by exact h : decide (bm_ (bz_ x) = x) = true)]
 ·rw [if_neg h, cons_append, cp_, if_neg (by rintro ⟨q, _⟩; exact absurd q (by decide)), if_pos rfl, append_assoc]
  exact hU_ x r []
theorem kL_ (l t r : List UInt8) (h : cE_ l = some (t, r)) : t.length ≤ l.length + 20 ∧ r.length < l.length := by
 cases l with
 | nil => cases h
 | cons b l =>
  rw [cE_] at h
  split at h
  ·split at h
   ·cases h
   ·split at h
    ·cases h
    ·simp only [Option.some.injEq, Prod.mk.injEq] at h
     obtain ⟨rfl, rfl⟩ := h
     refine ⟨?_, by simp only [length_drop, List.length_cons]; omega⟩
     unfold e7_
     split
     ·rename_i q; have := fe_ q.1 q.2; simp only [List.length_cons]; omega
     ·simp
  ·split at h
   ·have := gg_ l [] t r h
    simp only [List.length_nil, List.length_cons] at this ⊢; omega
   ·cases h
theorem pk_ (l t r : List UInt8) (h : cp_ l = some (t, r)) : t.length ≤ l.length + 20 ∧ r.length < l.length := by
 cases l with
 | nil => cases h
 | cons b l =>
  rw [cp_] at h
  split at h
  ·split at h
   ·rename_i q
    simp only [Option.some.injEq, Prod.mk.injEq] at h
    obtain ⟨rfl, rfl⟩ := h
    refine ⟨?_, by simp only [length_drop, List.length_cons]; omega⟩
    have := fe_ (n := (bC_ 0 (l.take 8) : Int) - 1000000000000000000) (by omega) (by omega)
    simp only [List.length_cons]; omega
   ·cases h
  ·split at h
   ·have := gg_ l [] t r h
    simp only [List.length_nil, List.length_cons] at this ⊢; omega
   ·cases h
def uB_ (x : List UInt8) : Bool := decide (1 ≤ x.length) && decide (x.length ≤ 24)
def dr_ (xs : List (List UInt8)) : Bool := decide (xs.length ≤ 4) && xs.all uB_
def bX_ (take : List UInt8 → Option (List UInt8 × List UInt8)) : Nat → List UInt8 → List (List UInt8) → Option (List (List UInt8) × List UInt8)
 | 0, left, out => some (out, left)
 | f + 1, left, out => if left = [] then some (out, left) else match take left with
  | none => none
  | some (t, r) => bX_ take f r (out ++ [t])
def ey_ (take : List UInt8 → Option (List UInt8 × List UInt8)) (s : List UInt8) : Option (List (List UInt8)) :=
 match bX_ take 5 s [] with
 | none => none
 | some (out, left) => if left = [] ∧ dr_ out = true ∧ bW_ out = s then some out else none
theorem lN_ {take : List UInt8 → Option (List UInt8 × List UInt8)} (hA : ∀ x r, take (bH_ x ++ r) = some (x, r)) : ∀ (xs : List (List UInt8)) (f : Nat) (out : List (List UInt8)), xs.length ≤ f → bX_ take f (bW_ xs) out = some (out ++ xs, [])
 | [], 0, out, _ => by rw [bX_, lM_, append_nil]
 | [], f + 1, out, _ => by rw [bX_, lM_, if_pos rfl, append_nil]
 | x :: xs, 0, out, h => by simp at h
 | x :: xs, f + 1, out, h => by
  rw [bX_, kS_, if_neg (by simp [pB_]), hA]
  simp only
  rw [lN_ hA xs f _ (by simpa using h), append_assoc]; rfl
theorem fW_ {take : List UInt8 → Option (List UInt8 × List UInt8)} (hA : ∀ x r, take (bH_ x ++ r) = some (x, r)) (s : List UInt8) (xs : List (List UInt8)) : ey_ take s = some xs ↔ dr_ xs = true ∧ bW_ xs = s := by
 constructor
 ·intro h
  unfold ey_ at h
  split at h
  ·cases h
  ·rename_i out left _
   split at h
   ·rename_i q
    simp only [Option.some.injEq] at h
    subst h
    exact q.2
   ·cases h
 ·rintro ⟨h1, h2⟩
  have hl : xs.length ≤ 4 := by simp only [dr_, Bool.and_eq_true, decide_eq_true_eq] at h1; exact h1.1
  have := lN_ hA xs 5 [] (by omega)
  rw [h2, nil_append] at this
  unfold ey_
  rw [this]
  simp only
  rw [if_pos ⟨trivial, h1, h2⟩]
theorem in_ (s : List UInt8) : ey_ cE_ s = ey_ cp_ s := by
 cases h : ey_ cp_ s with
 | some xs => exact (fW_ ic_ s xs).2 ((fW_ k7_ s xs).1 h)
 | none =>
  cases h2 : ey_ cE_ s with
  | none => rfl
  | some xs =>
   have := (fW_ k7_ s xs).2 ((fW_ ic_ s xs).1 h2)
   rw [h] at this; cases this
end Go.AW
