/-
 The order of texts and of lists of texts, as both programs reckon it. Nothing of any program.
-/
import Derived.Test.YtfkddbkjmkceaaaGreatDoorPlNum
import GoSem.Op.String
namespace Go.AW
set_option linter.unusedSimpArgs false
open List
theorem e1_ : ∀ a : List UInt8, Op.bytesLess a a = false
 | [] => rfl
 | x :: a => by simp [Op.bytesLess, e1_ a, UInt8.lt_irrefl]
theorem hP_ : ∀ a b : List UInt8, Op.bytesLess a b = false → Op.bytesLess b a = false → a = b
 | [], [], _, _ => rfl
 | [], _ :: _, h, _ => by simp [Op.bytesLess] at h
 | _ :: _, [], _, h => by simp [Op.bytesLess] at h
 | x :: a, y :: b, h1, h2 => by
  simp only [Op.bytesLess, Bool.or_eq_false_iff, Bool.and_eq_false_iff, decide_eq_false_iff_not, beq_eq_false_iff_ne] at h1 h2
  have e : x = y := UInt8.le_antisymm (UInt8.not_lt.1 h2.1) (UInt8.not_lt.1 h1.1)
  subst e
  rw [hP_ a b (by simpa using h1.2) (by simpa using h2.2)]
theorem ni_ : ∀ a b : List UInt8, Op.bytesLess a b = true → Op.bytesLess b a = false
 | [], [], h => by simp [Op.bytesLess] at h
 | [], _ :: _, _ => rfl
 | _ :: _, [], h => by simp [Op.bytesLess] at h
 | x :: a, y :: b, h => by
  simp only [Op.bytesLess, Bool.or_eq_true, Bool.and_eq_true, decide_eq_true_eq, beq_iff_eq] at h
  simp only [Op.bytesLess, Bool.or_eq_false_iff, Bool.and_eq_false_iff, decide_eq_false_iff_not, beq_eq_false_iff_ne]
  rcases h with h | ⟨h, k⟩
  ·exact ⟨fun q => UInt8.lt_irrefl x (UInt8.lt_trans h q), .inl fun e => by subst e; exact UInt8.lt_irrefl _ h⟩
  ·subst h
   exact ⟨UInt8.lt_irrefl _, .inr (ni_ a b k)⟩
def jh_ (a b : List UInt8) : Int := if Op.bytesLess a b then -1 else if Op.bytesLess b a then 1 else 0
def lx_ (a b : Int) : Int := if a < b then -1 else if b < a then 1 else 0
theorem hw_ (a b : List UInt8) : jh_ a b = 0 ↔ a = b := by
 unfold jh_
 constructor
 ·intro h
  split at h
  ·simp at h
  ·split at h
   ·simp at h
   ·exact hP_ a b (by simpa using ‹¬ Op.bytesLess a b = true›) (by simpa using ‹¬ Op.bytesLess b a = true›)
 ·rintro rfl; simp [e1_]
theorem qI_ (a b : List UInt8) : jh_ a b < 0 ↔ Op.bytesLess a b = true := by
 unfold jh_
 split
 ·simp_all
 ·split <;> simp_all
theorem tT_ (a b : Int) : lx_ a b = 0 ↔ a = b := by
 unfold lx_
 split
 ·omega
 ·split <;> omega
theorem v1_ (a b : Int) : lx_ a b < 0 ↔ a < b := by
 unfold lx_
 split
 ·omega
 ·split <;> omega
def dj_ (a b : List UInt8) : Int := if b7_ a && b7_ b then lx_ (bX_ a) (bX_ b) else if b7_ a then -1 else if b7_ b then 1 else jh_ a b
def before (a b : List UInt8) : Bool := if b7_ a && b7_ b then decide (bX_ a < bX_ b) else if b7_ a != b7_ b then b7_ a else Op.bytesLess a b
theorem fd_ (a b : List UInt8) : dj_ a b = 0 ↔ a = b := by
 unfold dj_
 cases ha : b7_ a <;> cases hb : b7_ b <;> simp only [Bool.and_true, Bool.and_false, Bool.false_eq_true, if_true, if_false]
 ·exact hw_ a b
 ·constructor
  ·intro h; simp at h
  ·rintro rfl; rw [ha] at hb; simp at hb
 ·constructor
  ·intro h; simp at h
  ·rintro rfl; rw [ha] at hb; simp at hb
 ·rw [tT_]
  exact ⟨tX_ ha hb, fun h => by rw [h]⟩
theorem ja_ (a b : List UInt8) : dj_ a b < 0 ↔ before a b = true := by
 unfold dj_ before
 cases ha : b7_ a <;> cases hb : b7_ b <;> simp only [Bool.and_true, Bool.and_false, Bool.false_eq_true, if_true, if_false, bne_self_eq_false]
 ·exact qI_ a b
 ·simp
 ·simp
 ·rw [v1_]; simp
def fL_ : List (List UInt8) → List (List UInt8) → Int
 | [], [] => 0
 | [], _ :: _ => -1
 | _ :: _, [] => 1
 | x :: xs, y :: ys => if dj_ x y = 0 then fL_ xs ys else dj_ x y
def ch_ : List (List UInt8) → List (List UInt8) → Bool
 | [], [] => false
 | [], _ :: _ => true
 | _ :: _, [] => false
 | x :: xs, y :: ys => if x = y then ch_ xs ys else before x y
theorem mb_ : ∀ xs ys, fL_ xs ys < 0 ↔ ch_ xs ys = true
 | [], [] => by simp [fL_, ch_]
 | [], _ :: _ => by simp [fL_, ch_]
 | _ :: _, [] => by simp [fL_, ch_]
 | x :: xs, y :: ys => by
  simp only [fL_, ch_]
  by_cases h : x = y
  ·rw [if_pos ((fd_ x y).2 h), if_pos h]; exact mb_ xs ys
  ·rw [if_neg (fun q => h ((fd_ x y).1 q)), if_neg h]; exact ja_ x y
theorem oI_ : ∀ xs ys, fL_ xs ys = 0 ↔ xs = ys
 | [], [] => by simp [fL_]
 | [], _ :: _ => by simp [fL_]
 | _ :: _, [] => by simp [fL_]
 | x :: xs, y :: ys => by
  simp only [fL_]
  by_cases h : x = y
  ·rw [if_pos ((fd_ x y).2 h), oI_ xs ys]; simp [h]
  ·have := fun q => h ((fd_ x y).1 q)
   rw [if_neg this]; simp only [List.cons.injEq, h, false_and, iff_false]; exact this
def g6_ (n : List UInt8) (s : List (List UInt8)) (o : List UInt8) (os : List (List UInt8)) : Int := if jh_ n o = 0 then fL_ s os else jh_ n o
def ea_ (n : List UInt8) (s : List (List UInt8)) (o : List UInt8) (os : List (List UInt8)) : Bool := if n = o then ch_ s os else Op.bytesLess n o
theorem pH_ (n : List UInt8) (s : List (List UInt8)) (o : List UInt8) (os : List (List UInt8)) : g6_ n s o os < 0 ↔ ea_ n s o os = true := by
 unfold g6_ ea_
 by_cases h : n = o
 ·rw [if_pos ((hw_ n o).2 h), if_pos h]; exact mb_ s os
 ·rw [if_neg (fun q => h ((hw_ n o).1 q)), if_neg h]; exact qI_ n o
theorem tH_ (n : List UInt8) (s : List (List UInt8)) (o : List UInt8) (os : List (List UInt8)) : g6_ n s o os = 0 ↔ n = o ∧ s = os := by
 unfold g6_
 by_cases h : n = o
 ·rw [if_pos ((hw_ n o).2 h), oI_]; simp [h]
 ·have := fun q => h ((hw_ n o).1 q)
  rw [if_neg this]; simp only [h, false_and, iff_false]; exact this
def dr_ (n j : Nat) : UInt8 := UInt8.ofNat (n / 256 ^ j % 256)
def be8 (n : Nat) : List UInt8 := [dr_ n 7, dr_ n 6, dr_ n 5, dr_ n 4, dr_ n 3, dr_ n 2, dr_ n 1, dr_ n 0]
def cs_ (acc : Nat) (l : List UInt8) : Nat := l.foldl (fun a b => a * 256 + b.toNat) acc
theorem lu_ (n j : Nat) : (dr_ n j).toNat = n / 256 ^ j % 256 := by
 unfold dr_; rw [UInt8.toNat_ofNat']; omega
theorem pT_ (n : Nat) (h : n < 18446744073709551616) : cs_ 0 (be8 n) = n := by
 simp only [cs_, be8, foldl_cons, foldl_nil, lu_, Nat.reducePow]
 omega
theorem p2_ (acc : Nat) : cs_ acc [] = acc := by unfold cs_; rw [foldl_nil]
theorem uv_ (acc : Nat) (b : UInt8) (l : List UInt8) : cs_ acc (b :: l) = cs_ (acc * 256 + b.toNat) l := by unfold cs_; rw [foldl_cons]
theorem nS_ : ∀ (l : List UInt8) (acc : Nat), cs_ acc l < (acc + 1) * 256 ^ l.length
 | [], acc => by rw [p2_]; simp
 | b :: l, acc => by
  rw [uv_]
  have h := nS_ l (acc * 256 + b.toNat)
  have hb := b.toNat_lt
  have h2 : (acc * 256 + b.toNat + 1) * 256 ^ l.length ≤ ((acc + 1) * 256) * 256 ^ l.length := Nat.mul_le_mul_right _ (by omega)
  rw [List.length_cons, Nat.pow_succ, Nat.mul_comm (256 ^ l.length), ← Nat.mul_assoc]
  omega
def esc : List UInt8 → List UInt8
 | [] => []
 | b :: l => if b = 0 then 0 :: 255 :: esc l else b :: esc l
def di_ (l : List UInt8) : Nat := (bX_ l + 1000000000000000000).toNat
def cz_ (l : List UInt8) : List UInt8 := if b7_ l then 1 :: be8 (di_ l) else 2 :: (esc l ++ [0, 0])
def cT_ (xs : List (List UInt8)) : List UInt8 := xs.flatMap cz_
theorem qD_ : cT_ [] = [] := rfl
theorem og_ (x : List UInt8) (xs : List (List UInt8)) : cT_ (x :: xs) = cz_ x ++ cT_ xs := rfl
theorem t6_ (l : List UInt8) : cz_ l ≠ [] := by unfold cz_; split <;> simp
theorem i4_ (l : List UInt8) : 1 ≤ di_ l ∧ di_ l ≤ 1999999999999999999 := by
 have := eN_ l
 unfold di_; omega
theorem iX_ (l : List UInt8) : ((di_ l : Nat) : Int) = bX_ l + 1000000000000000000 := by
 have := eN_ l
 unfold di_; omega
theorem jO_ : ∀ l : List UInt8, (esc l).length ≤ 2 * l.length
 | [] => by simp [esc]
 | b :: l => by
  have := jO_ l
  unfold esc
  split <;> simp only [List.length_cons] <;> omega
theorem kv_ (l : List UInt8) : (cz_ l).length ≤ 2 * l.length + 9 := by
 have := jO_ l
 unfold cz_
 split
 ·simp [be8]
 ·simp only [List.length_cons, List.length_append, List.length_nil]; omega
def cv_ : List UInt8 → List UInt8 → Option (List UInt8 × List UInt8)
 | b :: c :: r, acc => if b = 0 then (if c = 0 then some (acc, r) else if c = 255 then cv_ r (acc ++ [0]) else none) else cv_ (c :: r) (acc ++ [b])
 | [_], _ => none
 | [], _ => none
theorem hy_ (b c : UInt8) (r acc : List UInt8) : cv_ (b :: c :: r) acc = if b = 0 then (if c = 0 then some (acc, r) else if c = 255 then cv_ r (acc ++ [0]) else none) else cv_ (c :: r) (acc ++ [b]) := by
 rw [cv_]
theorem rv_ (l acc : List UInt8) (h : l.length < 2) : cv_ l acc = none := by
 match l, h with
 | [], _ => rw [cv_]
 | [_], _ => rw [cv_]
theorem m9_ (l acc : List UInt8) (i : Nat) (h : i + 1 < l.length) : cv_ (l.drop i) acc = if l[i] = 0 then (if l[i + 1] = 0 then some (acc, l.drop (i + 2)) else if l[i + 1] = 255 then cv_ (l.drop (i + 2)) (acc ++ [0]) else none) else cv_ (l.drop (i + 1)) (acc ++ [l[i]]) := by
 rw [drop_eq_getElem_cons (by omega : i < l.length), drop_eq_getElem_cons h, hy_]
theorem ot_ (l acc : List UInt8) (i : Nat) (h : l.length ≤ i + 1) : cv_ (l.drop i) acc = none :=
 rv_ _ _ (by rw [length_drop]; omega)
theorem iT_ : ∀ (l acc t r : List UInt8), cv_ l acc = some (t, r) → t.length ≤ acc.length + l.length ∧ r.length ≤ l.length
 | [], acc, t, r, h => by rw [cv_] at h; cases h
 | [_], acc, t, r, h => by rw [cv_] at h; cases h
 | b :: c :: l, acc, t, r, h => by
  rw [hy_] at h
  split at h
  ·split at h
   ·simp only [Option.some.injEq, Prod.mk.injEq] at h
    obtain ⟨rfl, rfl⟩ := h
    simp only [List.length_cons]; omega
   ·split at h
    ·have := iT_ l _ t r h
     simp only [List.length_append, List.length_cons, List.length_nil] at this ⊢; omega
    ·cases h
  ·have := iT_ (c :: l) _ t r h
   simp only [List.length_append, List.length_cons, List.length_nil] at this ⊢; omega
theorem k2_ : ∀ (x rest acc : List UInt8), cv_ (esc x ++ (0 :: 0 :: rest)) acc = some (acc ++ x, rest)
 | [], rest, acc => by
  rw [esc, nil_append, hy_, if_pos rfl, if_pos rfl, append_nil]
 | b :: x, rest, acc => by
  have ih := k2_ x rest (acc ++ [b])
  by_cases h : b = 0
  ·subst h
   rw [esc, if_pos rfl, cons_append, cons_append, hy_, if_pos rfl, if_neg (by decide), if_pos rfl, ih, append_assoc]
   rfl
  ·rw [esc, if_neg h, cons_append]
   cases hq : esc x ++ (0 :: 0 :: rest) with
   | nil => simp at hq
   | cons c r => rw [hy_, if_neg h, ← hq, ih, append_assoc]; rfl
def g2_ (n : Int) : List UInt8 := if -999999999999999999 ≤ n ∧ n ≤ 999999999999999999 then b8_ n else []
def dV_ : List UInt8 → Option (List UInt8 × List UInt8)
 | [] => none
 | b :: l => if b = 1 then (if l.length < 8 then none else if 2000000000000000000 < cs_ 0 (l.take 8) then none else some (g2_ ((cs_ 0 (l.take 8) : Int) - 1000000000000000000), l.drop 8))
  else if b = 2 then cv_ l [] else none
def du_ : List UInt8 → Option (List UInt8 × List UInt8)
 | [] => none
 | b :: l => if b = 1 ∧ 8 ≤ l.length then (if 1 ≤ cs_ 0 (l.take 8) ∧ cs_ 0 (l.take 8) ≤ 1999999999999999999 then some (b8_ ((cs_ 0 (l.take 8) : Int) - 1000000000000000000), l.drop 8) else none)
  else if b = 2 then cv_ l [] else none
theorem d2_ (n : Nat) : (be8 n).length = 8 := rfl
theorem ps_ (n : Nat) (r : List UInt8) : (be8 n ++ r).take 8 = be8 n := take_left' (d2_ n)
theorem pW_ (n : Nat) (r : List UInt8) : (be8 n ++ r).drop 8 = r := drop_left' (d2_ n)
theorem kU_ (x r : List UInt8) : dV_ (cz_ x ++ r) = some (x, r) := by
 unfold cz_
 by_cases h : b7_ x = true
 ·have hk := i4_ x
  have hq := iX_ x
  rw [if_pos h, cons_append, dV_, if_pos rfl, if_neg (by simp [d2_]), ps_, pW_, pT_ _ (by omega), if_neg (by omega)]
  have e : ((di_ x : Nat) : Int) - 1000000000000000000 = bX_ x := by omega
  have hn := eN_ x
  rw [e, g2_, if_pos hn, of_decide_eq_true (by exact h : decide (b8_ (bX_ x) = x) = true)]
 ·rw [if_neg h, cons_append, dV_, if_neg (by decide), if_pos rfl, append_assoc]
  exact k2_ x r []
theorem ow_ (x r : List UInt8) : du_ (cz_ x ++ r) = some (x, r) := by
 unfold cz_
 by_cases h : b7_ x = true
 ·have hk := i4_ x
  have hq := iX_ x
  rw [if_pos h, cons_append, du_, if_pos ⟨rfl, by simp [d2_]⟩, ps_, pW_, pT_ _ (by omega), if_pos (by omega)]
  have e : ((di_ x : Nat) : Int) - 1000000000000000000 = bX_ x := by omega
  rw [e, of_decide_eq_true (by exact h : decide (b8_ (bX_ x) = x) = true)]
 ·rw [if_neg h, cons_append, du_, if_neg (by rintro ⟨q, _⟩; exact absurd q (by decide)), if_pos rfl, append_assoc]
  exact k2_ x r []
theorem oH_ (l t r : List UInt8) (h : dV_ l = some (t, r)) : t.length ≤ l.length + 20 ∧ r.length < l.length := by
 cases l with
 | nil => cases h
 | cons b l =>
  rw [dV_] at h
  split at h
  ·split at h
   ·cases h
   ·split at h
    ·cases h
    ·simp only [Option.some.injEq, Prod.mk.injEq] at h
     obtain ⟨rfl, rfl⟩ := h
     refine ⟨?_, by simp only [length_drop, List.length_cons]; omega⟩
     unfold g2_
     split
     ·rename_i q; have := g0_ q.1 q.2; simp only [List.length_cons]; omega
     ·simp
  ·split at h
   ·have := iT_ l [] t r h
    simp only [List.length_nil, List.length_cons] at this ⊢; omega
   ·cases h
theorem tR_ (l t r : List UInt8) (h : du_ l = some (t, r)) : t.length ≤ l.length + 20 ∧ r.length < l.length := by
 cases l with
 | nil => cases h
 | cons b l =>
  rw [du_] at h
  split at h
  ·split at h
   ·rename_i q
    simp only [Option.some.injEq, Prod.mk.injEq] at h
    obtain ⟨rfl, rfl⟩ := h
    refine ⟨?_, by simp only [length_drop, List.length_cons]; omega⟩
    have := g0_ (n := (cs_ 0 (l.take 8) : Int) - 1000000000000000000) (by omega) (by omega)
    simp only [List.length_cons]; omega
   ·cases h
  ·split at h
   ·have := iT_ l [] t r h
    simp only [List.length_nil, List.length_cons] at this ⊢; omega
   ·cases h
def Ae_ (x : List UInt8) : Bool := decide (1 ≤ x.length) && decide (x.length ≤ 24)
def eP_ (xs : List (List UInt8)) : Bool := decide (xs.length ≤ 4) && xs.all Ae_
def cV_ (take : List UInt8 → Option (List UInt8 × List UInt8)) : Nat → List UInt8 → List (List UInt8) → Option (List (List UInt8) × List UInt8)
 | 0, left, out => some (out, left)
 | f + 1, left, out => if left = [] then some (out, left) else match take left with
  | none => none
  | some (t, r) => cV_ take f r (out ++ [t])
def gb_ (take : List UInt8 → Option (List UInt8 × List UInt8)) (s : List UInt8) : Option (List (List UInt8)) :=
 match cV_ take 5 s [] with
 | none => none
 | some (out, left) => if left = [] ∧ eP_ out = true ∧ cT_ out = s then some out else none
theorem po_ {take : List UInt8 → Option (List UInt8 × List UInt8)} (hA : ∀ x r, take (cz_ x ++ r) = some (x, r)) : ∀ (xs : List (List UInt8)) (f : Nat) (out : List (List UInt8)), xs.length ≤ f → cV_ take f (cT_ xs) out = some (out ++ xs, [])
 | [], 0, out, _ => by rw [cV_, qD_, append_nil]
 | [], f + 1, out, _ => by rw [cV_, qD_, if_pos rfl, append_nil]
 | x :: xs, 0, out, h => by simp at h
 | x :: xs, f + 1, out, h => by
  rw [cV_, og_, if_neg (by simp [t6_]), hA]
  simp only
  rw [po_ hA xs f _ (by simpa using h), append_assoc]; rfl
theorem ix_ {take : List UInt8 → Option (List UInt8 × List UInt8)} (hA : ∀ x r, take (cz_ x ++ r) = some (x, r)) (s : List UInt8) (xs : List (List UInt8)) : gb_ take s = some xs ↔ eP_ xs = true ∧ cT_ xs = s := by
 constructor
 ·intro h
  unfold gb_ at h
  split at h
  ·cases h
  ·rename_i out left _
   split at h
   ·rename_i q
    simp only [Option.some.injEq] at h
    subst h
    exact q.2
   ·cases h
 ·rintro ⟨h1, h2⟩
  have hl : xs.length ≤ 4 := by simp only [eP_, Bool.and_eq_true, decide_eq_true_eq] at h1; exact h1.1
  have := po_ hA xs 5 [] (by omega)
  rw [h2, nil_append] at this
  unfold gb_
  rw [this]
  simp only
  rw [if_pos ⟨trivial, h1, h2⟩]
theorem lp_ (s : List UInt8) : gb_ dV_ s = gb_ du_ s := by
 cases h : gb_ du_ s with
 | some xs => exact (ix_ kU_ s xs).2 ((ix_ ow_ s xs).1 h)
 | none =>
  cases h2 : gb_ dV_ s with
  | none => rfl
  | some xs =>
   have := (ix_ ow_ s xs).2 ((ix_ kU_ s xs).1 h2)
   rw [h] at this; cases this
end Go.AW
