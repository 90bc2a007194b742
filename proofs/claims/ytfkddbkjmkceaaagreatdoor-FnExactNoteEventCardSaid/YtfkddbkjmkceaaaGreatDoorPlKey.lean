/-
 The order of texts and of lists of texts, as both programs reckon it. Nothing of any program.
-/
import Derived.Test.YtfkddbkjmkceaaaGreatDoorPlNum
import GoSem.Op.String
namespace Go.AW
set_option linter.unusedSimpArgs false
open List
theorem eW_ : ∀ a : List UInt8, Op.bytesLess a a = false
 | [] => rfl
 | x :: a => by simp [Op.bytesLess, eW_ a, UInt8.lt_irrefl]
theorem hK_ : ∀ a b : List UInt8, Op.bytesLess a b = false → Op.bytesLess b a = false → a = b
 | [], [], _, _ => rfl
 | [], _ :: _, h, _ => by simp [Op.bytesLess] at h
 | _ :: _, [], _, h => by simp [Op.bytesLess] at h
 | x :: a, y :: b, h1, h2 => by
  simp only [Op.bytesLess, Bool.or_eq_false_iff, Bool.and_eq_false_iff, decide_eq_false_iff_not, beq_eq_false_iff_ne] at h1 h2
  have e : x = y := UInt8.le_antisymm (UInt8.not_lt.1 h2.1) (UInt8.not_lt.1 h1.1)
  subst e
  rw [hK_ a b (by simpa using h1.2) (by simpa using h2.2)]
theorem mM_ : ∀ a b : List UInt8, Op.bytesLess a b = true → Op.bytesLess b a = false
 | [], [], h => by simp [Op.bytesLess] at h
 | [], _ :: _, _ => rfl
 | _ :: _, [], h => by simp [Op.bytesLess] at h
 | x :: a, y :: b, h => by
  simp only [Op.bytesLess, Bool.or_eq_true, Bool.and_eq_true, decide_eq_true_eq, beq_iff_eq] at h
  simp only [Op.bytesLess, Bool.or_eq_false_iff, Bool.and_eq_false_iff, decide_eq_false_iff_not, beq_eq_false_iff_ne]
  rcases h with h | ⟨h, k⟩
  ·exact ⟨fun q => UInt8.lt_irrefl x (UInt8.lt_trans h q), .inl fun e => by subst e; exact UInt8.lt_irrefl _ h⟩
  ·subst h
   exact ⟨UInt8.lt_irrefl _, .inr (mM_ a b k)⟩
def jk_ (a b : List UInt8) : Int := if Op.bytesLess a b then -1 else if Op.bytesLess b a then 1 else 0
def kC_ (a b : Int) : Int := if a < b then -1 else if b < a then 1 else 0
theorem hs_ (a b : List UInt8) : jk_ a b = 0 ↔ a = b := by
 unfold jk_
 constructor
 ·intro h
  split at h
  ·simp at h
  ·split at h
   ·simp at h
   ·exact hK_ a b (by simpa using ‹¬ Op.bytesLess a b = true›) (by simpa using ‹¬ Op.bytesLess b a = true›)
 ·rintro rfl; simp [eW_]
theorem qc_ (a b : List UInt8) : jk_ a b < 0 ↔ Op.bytesLess a b = true := by
 unfold jk_
 split
 ·simp_all
 ·split <;> simp_all
theorem tV_ (a b : Int) : kC_ a b = 0 ↔ a = b := by
 unfold kC_
 split
 ·omega
 ·split <;> omega
theorem v3_ (a b : Int) : kC_ a b < 0 ↔ a < b := by
 unfold kC_
 split
 ·omega
 ·split <;> omega
def dm_ (a b : List UInt8) : Int := if b8_ a && b8_ b then kC_ (b1_ a) (b1_ b) else if b8_ a then -1 else if b8_ b then 1 else jk_ a b
def before (a b : List UInt8) : Bool := if b8_ a && b8_ b then decide (b1_ a < b1_ b) else if b8_ a != b8_ b then b8_ a else Op.bytesLess a b
theorem ff_ (a b : List UInt8) : dm_ a b = 0 ↔ a = b := by
 unfold dm_
 cases ha : b8_ a <;> cases hb : b8_ b <;> simp only [Bool.and_true, Bool.and_false, Bool.false_eq_true, if_true, if_false]
 ·exact hs_ a b
 ·constructor
  ·intro h; simp at h
  ·rintro rfl; rw [ha] at hb; simp at hb
 ·constructor
  ·intro h; simp at h
  ·rintro rfl; rw [ha] at hb; simp at hb
 ·rw [tV_]
  exact ⟨tt_ ha hb, fun h => by rw [h]⟩
theorem jg_ (a b : List UInt8) : dm_ a b < 0 ↔ before a b = true := by
 unfold dm_ before
 cases ha : b8_ a <;> cases hb : b8_ b <;> simp only [Bool.and_true, Bool.and_false, Bool.false_eq_true, if_true, if_false, bne_self_eq_false]
 ·exact qc_ a b
 ·simp
 ·simp
 ·rw [v3_]; simp
def fO_ : List (List UInt8) → List (List UInt8) → Int
 | [], [] => 0
 | [], _ :: _ => -1
 | _ :: _, [] => 1
 | x :: xs, y :: ys => if dm_ x y = 0 then fO_ xs ys else dm_ x y
def ch_ : List (List UInt8) → List (List UInt8) → Bool
 | [], [] => false
 | [], _ :: _ => true
 | _ :: _, [] => false
 | x :: xs, y :: ys => if x = y then ch_ xs ys else before x y
theorem lY_ : ∀ xs ys, fO_ xs ys < 0 ↔ ch_ xs ys = true
 | [], [] => by simp [fO_, ch_]
 | [], _ :: _ => by simp [fO_, ch_]
 | _ :: _, [] => by simp [fO_, ch_]
 | x :: xs, y :: ys => by
  simp only [fO_, ch_]
  by_cases h : x = y
  ·rw [if_pos ((ff_ x y).2 h), if_pos h]; exact lY_ xs ys
  ·rw [if_neg (fun q => h ((ff_ x y).1 q)), if_neg h]; exact jg_ x y
theorem oc_ : ∀ xs ys, fO_ xs ys = 0 ↔ xs = ys
 | [], [] => by simp [fO_]
 | [], _ :: _ => by simp [fO_]
 | _ :: _, [] => by simp [fO_]
 | x :: xs, y :: ys => by
  simp only [fO_]
  by_cases h : x = y
  ·rw [if_pos ((ff_ x y).2 h), oc_ xs ys]; simp [h]
  ·have := fun q => h ((ff_ x y).1 q)
   rw [if_neg this]; simp only [List.cons.injEq, h, false_and, iff_false]; exact this
def g8_ (n : List UInt8) (s : List (List UInt8)) (o : List UInt8) (os : List (List UInt8)) : Int := if jk_ n o = 0 then fO_ s os else jk_ n o
def d9_ (n : List UInt8) (s : List (List UInt8)) (o : List UInt8) (os : List (List UInt8)) : Bool := if n = o then ch_ s os else Op.bytesLess n o
theorem qv_ (n : List UInt8) (s : List (List UInt8)) (o : List UInt8) (os : List (List UInt8)) : g8_ n s o os < 0 ↔ d9_ n s o os = true := by
 unfold g8_ d9_
 by_cases h : n = o
 ·rw [if_pos ((hs_ n o).2 h), if_pos h]; exact lY_ s os
 ·rw [if_neg (fun q => h ((hs_ n o).1 q)), if_neg h]; exact qc_ n o
theorem uh_ (n : List UInt8) (s : List (List UInt8)) (o : List UInt8) (os : List (List UInt8)) : g8_ n s o os = 0 ↔ n = o ∧ s = os := by
 unfold g8_
 by_cases h : n = o
 ·rw [if_pos ((hs_ n o).2 h), oc_]; simp [h]
 ·have := fun q => h ((hs_ n o).1 q)
  rw [if_neg this]; simp only [h, false_and, iff_false]; exact this
def dr_ (n j : Nat) : UInt8 := UInt8.ofNat (n / 256 ^ j % 256)
def be8 (n : Nat) : List UInt8 := [dr_ n 7, dr_ n 6, dr_ n 5, dr_ n 4, dr_ n 3, dr_ n 2, dr_ n 1, dr_ n 0]
def cs_ (acc : Nat) (l : List UInt8) : Nat := l.foldl (fun a b => a * 256 + b.toNat) acc
theorem kz_ (n j : Nat) : (dr_ n j).toNat = n / 256 ^ j % 256 := by
 unfold dr_; rw [UInt8.toNat_ofNat']; omega
theorem p9_ (n : Nat) (h : n < 18446744073709551616) : cs_ 0 (be8 n) = n := by
 simp only [cs_, be8, foldl_cons, foldl_nil, kz_, Nat.reducePow]
 omega
theorem po_ (acc : Nat) : cs_ acc [] = acc := by unfold cs_; rw [foldl_nil]
theorem ub_ (acc : Nat) (b : UInt8) (l : List UInt8) : cs_ acc (b :: l) = cs_ (acc * 256 + b.toNat) l := by unfold cs_; rw [foldl_cons]
theorem nK_ : ∀ (l : List UInt8) (acc : Nat), cs_ acc l < (acc + 1) * 256 ^ l.length
 | [], acc => by rw [po_]; simp
 | b :: l, acc => by
  rw [ub_]
  have h := nK_ l (acc * 256 + b.toNat)
  have hb := b.toNat_lt
  have h2 : (acc * 256 + b.toNat + 1) * 256 ^ l.length ≤ ((acc + 1) * 256) * 256 ^ l.length := Nat.mul_le_mul_right _ (by omega)
  rw [List.length_cons, Nat.pow_succ, Nat.mul_comm (256 ^ l.length), ← Nat.mul_assoc]
  omega
def esc : List UInt8 → List UInt8
 | [] => []
 | b :: l => if b = 0 then 0 :: 255 :: esc l else b :: esc l
def dh_ (l : List UInt8) : Nat := (b1_ l + 1000000000000000000).toNat
def cx_ (l : List UInt8) : List UInt8 := if b8_ l then 1 :: be8 (dh_ l) else 2 :: (esc l ++ [0, 0])
def cM_ (xs : List (List UInt8)) : List UInt8 := xs.flatMap cx_
theorem me_ : cM_ [] = [] := rfl
theorem kW_ (x : List UInt8) (xs : List (List UInt8)) : cM_ (x :: xs) = cx_ x ++ cM_ xs := rfl
theorem tP_ (l : List UInt8) : cx_ l ≠ [] := by unfold cx_; split <;> simp
theorem iy_ (l : List UInt8) : 1 ≤ dh_ l ∧ dh_ l ≤ 1999999999999999999 := by
 have := eI_ l
 unfold dh_; omega
theorem iG_ (l : List UInt8) : ((dh_ l : Nat) : Int) = b1_ l + 1000000000000000000 := by
 have := eI_ l
 unfold dh_; omega
theorem j4_ : ∀ l : List UInt8, (esc l).length ≤ 2 * l.length
 | [] => by simp [esc]
 | b :: l => by
  have := j4_ l
  unfold esc
  split <;> simp only [List.length_cons] <;> omega
theorem hz_ (l : List UInt8) : (cx_ l).length ≤ 2 * l.length + 9 := by
 have := j4_ l
 unfold cx_
 split
 ·simp [be8]
 ·simp only [List.length_cons, List.length_append, List.length_nil]; omega
def ct_ : List UInt8 → List UInt8 → Option (List UInt8 × List UInt8)
 | b :: c :: r, acc => if b = 0 then (if c = 0 then some (acc, r) else if c = 255 then ct_ r (acc ++ [0]) else none) else ct_ (c :: r) (acc ++ [b])
 | [_], _ => none
 | [], _ => none
theorem ht_ (b c : UInt8) (r acc : List UInt8) : ct_ (b :: c :: r) acc = if b = 0 then (if c = 0 then some (acc, r) else if c = 255 then ct_ r (acc ++ [0]) else none) else ct_ (c :: r) (acc ++ [b]) := by
 rw [ct_]
theorem ro_ (l acc : List UInt8) (h : l.length < 2) : ct_ l acc = none := by
 match l, h with
 | [], _ => rw [ct_]
 | [_], _ => rw [ct_]
theorem mE_ (l acc : List UInt8) (i : Nat) (h : i + 1 < l.length) : ct_ (l.drop i) acc = if l[i] = 0 then (if l[i + 1] = 0 then some (acc, l.drop (i + 2)) else if l[i + 1] = 255 then ct_ (l.drop (i + 2)) (acc ++ [0]) else none) else ct_ (l.drop (i + 1)) (acc ++ [l[i]]) := by
 rw [drop_eq_getElem_cons (by omega : i < l.length), drop_eq_getElem_cons h, ht_]
theorem oy_ (l acc : List UInt8) (i : Nat) (h : l.length ≤ i + 1) : ct_ (l.drop i) acc = none :=
 ro_ _ _ (by rw [length_drop]; omega)
theorem iL_ : ∀ (l acc t r : List UInt8), ct_ l acc = some (t, r) → t.length ≤ acc.length + l.length ∧ r.length ≤ l.length
 | [], acc, t, r, h => by rw [ct_] at h; cases h
 | [_], acc, t, r, h => by rw [ct_] at h; cases h
 | b :: c :: l, acc, t, r, h => by
  rw [ht_] at h
  split at h
  ·split at h
   ·simp only [Option.some.injEq, Prod.mk.injEq] at h
    obtain ⟨rfl, rfl⟩ := h
    simp only [List.length_cons]; omega
   ·split at h
    ·have := iL_ l _ t r h
     simp only [List.length_append, List.length_cons, List.length_nil] at this ⊢; omega
    ·cases h
  ·have := iL_ (c :: l) _ t r h
   simp only [List.length_append, List.length_cons, List.length_nil] at this ⊢; omega
theorem li_ : ∀ (x rest acc : List UInt8), ct_ (esc x ++ (0 :: 0 :: rest)) acc = some (acc ++ x, rest)
 | [], rest, acc => by
  rw [esc, nil_append, ht_, if_pos rfl, if_pos rfl, append_nil]
 | b :: x, rest, acc => by
  have ih := li_ x rest (acc ++ [b])
  by_cases h : b = 0
  ·subst h
   rw [esc, if_pos rfl, cons_append, cons_append, ht_, if_pos rfl, if_neg (by decide), if_pos rfl, ih, append_assoc]
   rfl
  ·rw [esc, if_neg h, cons_append]
   cases hq : esc x ++ (0 :: 0 :: rest) with
   | nil => simp at hq
   | cons c r => rw [ht_, if_neg h, ← hq, ih, append_assoc]; rfl
def gT_ (n : Int) : List UInt8 := if -999999999999999999 ≤ n ∧ n ≤ 999999999999999999 then b6_ n else []
def dx_ : List UInt8 → Option (List UInt8 × List UInt8)
 | [] => none
 | b :: l => if b = 1 then (if l.length < 8 then none else if 2000000000000000000 < cs_ 0 (l.take 8) then none else some (gT_ ((cs_ 0 (l.take 8) : Int) - 1000000000000000000), l.drop 8))
  else if b = 2 then ct_ l [] else none
def dy_ : List UInt8 → Option (List UInt8 × List UInt8)
 | [] => none
 | b :: l => if b = 1 ∧ 8 ≤ l.length then (if 1 ≤ cs_ 0 (l.take 8) ∧ cs_ 0 (l.take 8) ≤ 1999999999999999999 then some (b6_ ((cs_ 0 (l.take 8) : Int) - 1000000000000000000), l.drop 8) else none)
  else if b = 2 then ct_ l [] else none
theorem d8_ (n : Nat) : (be8 n).length = 8 := rfl
theorem p5_ (n : Nat) (r : List UInt8) : (be8 n ++ r).take 8 = be8 n := take_left' (d8_ n)
theorem pc_ (n : Nat) (r : List UInt8) : (be8 n ++ r).drop 8 = r := drop_left' (d8_ n)
theorem iv_ (x r : List UInt8) : dx_ (cx_ x ++ r) = some (x, r) := by
 unfold cx_
 by_cases h : b8_ x = true
 ·have hk := iy_ x
  have hq := iG_ x
  rw [if_pos h, cons_append, dx_, if_pos rfl, if_neg (by simp [d8_]), p5_, pc_, p9_ _ (by omega), if_neg (by omega)]
  have e : ((dh_ x : Nat) : Int) - 1000000000000000000 = b1_ x := by omega
  have hn := eI_ x
  rw [e, gT_, if_pos hn, of_decide_eq_true (by exact h : decide (b6_ (b1_ x) = x) = true)]
 ·rw [if_neg h, cons_append, dx_, if_neg (by decide), if_pos rfl, append_assoc]
  exact li_ x r []
theorem oi_ (x r : List UInt8) : dy_ (cx_ x ++ r) = some (x, r) := by
 unfold cx_
 by_cases h : b8_ x = true
 ·have hk := iy_ x
  have hq := iG_ x
  rw [if_pos h, cons_append, dy_, if_pos ⟨rfl, by simp [d8_]⟩, p5_, pc_, p9_ _ (by omega), if_pos (by omega)]
  have e : ((dh_ x : Nat) : Int) - 1000000000000000000 = b1_ x := by omega
  rw [e, of_decide_eq_true (by exact h : decide (b6_ (b1_ x) = x) = true)]
 ·rw [if_neg h, cons_append, dy_, if_neg (by rintro ⟨q, _⟩; exact absurd q (by decide)), if_pos rfl, append_assoc]
  exact li_ x r []
theorem n4_ (l t r : List UInt8) (h : dx_ l = some (t, r)) : t.length ≤ l.length + 20 ∧ r.length < l.length := by
 cases l with
 | nil => cases h
 | cons b l =>
  rw [dx_] at h
  split at h
  ·split at h
   ·cases h
   ·split at h
    ·cases h
    ·simp only [Option.some.injEq, Prod.mk.injEq] at h
     obtain ⟨rfl, rfl⟩ := h
     refine ⟨?_, by simp only [length_drop, List.length_cons]; omega⟩
     unfold gT_
     split
     ·rename_i q; have := g6_ q.1 q.2; simp only [List.length_cons]; omega
     ·simp
  ·split at h
   ·have := iL_ l [] t r h
    simp only [List.length_nil, List.length_cons] at this ⊢; omega
   ·cases h
theorem ts_ (l t r : List UInt8) (h : dy_ l = some (t, r)) : t.length ≤ l.length + 20 ∧ r.length < l.length := by
 cases l with
 | nil => cases h
 | cons b l =>
  rw [dy_] at h
  split at h
  ·split at h
   ·rename_i q
    simp only [Option.some.injEq, Prod.mk.injEq] at h
    obtain ⟨rfl, rfl⟩ := h
    refine ⟨?_, by simp only [length_drop, List.length_cons]; omega⟩
    have := g6_ (n := (cs_ 0 (l.take 8) : Int) - 1000000000000000000) (by omega) (by omega)
    simp only [List.length_cons]; omega
   ·cases h
  ·split at h
   ·have := iL_ l [] t r h
    simp only [List.length_nil, List.length_cons] at this ⊢; omega
   ·cases h
def vV_ (x : List UInt8) : Bool := decide (1 ≤ x.length) && decide (x.length ≤ 24)
def en_ (xs : List (List UInt8)) : Bool := decide (xs.length ≤ 4) && xs.all vV_
def cV_ (take : List UInt8 → Option (List UInt8 × List UInt8)) : Nat → List UInt8 → List (List UInt8) → Option (List (List UInt8) × List UInt8)
 | 0, left, out => some (out, left)
 | f + 1, left, out => if left = [] then some (out, left) else match take left with
  | none => none
  | some (t, r) => cV_ take f r (out ++ [t])
def fL_ (take : List UInt8 → Option (List UInt8 × List UInt8)) (s : List UInt8) : Option (List (List UInt8)) :=
 match cV_ take 5 s [] with
 | none => none
 | some (out, left) => if left = [] ∧ en_ out = true ∧ cM_ out = s then some out else none
theorem pj_ {take : List UInt8 → Option (List UInt8 × List UInt8)} (hA : ∀ x r, take (cx_ x ++ r) = some (x, r)) : ∀ (xs : List (List UInt8)) (f : Nat) (out : List (List UInt8)), xs.length ≤ f → cV_ take f (cM_ xs) out = some (out ++ xs, [])
 | [], 0, out, _ => by rw [cV_, me_, append_nil]
 | [], f + 1, out, _ => by rw [cV_, me_, if_pos rfl, append_nil]
 | x :: xs, 0, out, h => by simp at h
 | x :: xs, f + 1, out, h => by
  rw [cV_, kW_, if_neg (by simp [tP_]), hA]
  simp only
  rw [pj_ hA xs f _ (by simpa using h), append_assoc]; rfl
theorem gU_ {take : List UInt8 → Option (List UInt8 × List UInt8)} (hA : ∀ x r, take (cx_ x ++ r) = some (x, r)) (s : List UInt8) (xs : List (List UInt8)) : fL_ take s = some xs ↔ en_ xs = true ∧ cM_ xs = s := by
 constructor
 ·intro h
  unfold fL_ at h
  split at h
  ·cases h
  ·rename_i out left _
   split at h
   ·rename_i q
    simp only [Option.some.injEq] at h
    subst h
    exact q.2
   ·cases h
 ·rintro ⟨h1, h2⟩
  have hl : xs.length ≤ 4 := by simp only [en_, Bool.and_eq_true, decide_eq_true_eq] at h1; exact h1.1
  have := pj_ hA xs 5 [] (by omega)
  rw [h2, nil_append] at this
  unfold fL_
  rw [this]
  simp only
  rw [if_pos ⟨trivial, h1, h2⟩]
theorem kK_ (s : List UInt8) : fL_ dx_ s = fL_ dy_ s := by
 cases h : fL_ dy_ s with
 | some xs => exact (gU_ iv_ s xs).2 ((gU_ oi_ s xs).1 h)
 | none =>
  cases h2 : fL_ dx_ s with
  | none => rfl
  | some xs =>
   have := (gU_ oi_ s xs).2 ((gU_ iv_ s xs).1 h2)
   rw [h] at this; cases this
end Go.AW
