/-
 Numbers that are sorted and made single, and numbers that are put to their places one by one, are the same. Nothing of any program.
-/
import Derived.Test.YtddmifalinefnaaGreatDoorAwC
namespace Go.AW
open List
set_option linter.unusedSimpArgs false
def cx_ : List Int → Int → List Int
 | [], n => [n]
 | z :: r, n => if n ≤ z then (if n < z then n :: z :: r else z :: r) else z :: cx_ r n
def aT_ : List Int → List Int
 | [] => []
 | [x] => [x]
 | x :: y :: r => if x = y then aT_ (y :: r) else x :: aT_ (y :: r)
theorem j3_ (m n : Int) : ∀ zs : List Int, m ∈ cx_ zs n ↔ m = n ∨ m ∈ zs
 | [] => by simp [cx_]
 | z :: r => by
  have ih := j3_ m n r
  simp only [cx_]
  split
  ·split
   ·simp
   ·rename_i h1 h2
    have e : n = z := by omega
    subst e; simp
  ·simp only [mem_cons, ih]
   constructor <;> (intro h; rcases h with h | h | h <;> simp [h])
theorem jp_ (n : Int) : ∀ zs : List Int, zs.Pairwise (· < ·) → (cx_ zs n).Pairwise (· < ·)
 | [], _ => by simp [cx_]
 | z :: r, h => by
  obtain ⟨h1, h2⟩ := pairwise_cons.1 h
  simp only [cx_]
  split
  ·split
   ·rename_i h3 h4
    refine pairwise_cons.2 ⟨fun a ha => ?_, h⟩
    rcases mem_cons.1 ha with e | e
    ·subst e; exact h4
    ·have := h1 a e; omega
   ·exact h
  ·rename_i h3
   refine pairwise_cons.2 ⟨fun a ha => ?_, jp_ n r h2⟩
   rcases (j3_ a n r).1 ha with e | e
   ·subst e; omega
   ·exact h1 a e
theorem j9_ : ∀ (l zs : List Int), zs.Pairwise (· < ·) → (l.foldl cx_ zs).Pairwise (· < ·) ∧ ∀ m, m ∈ l.foldl cx_ zs ↔ m ∈ l ∨ m ∈ zs
 | [], zs, h => ⟨h, by simp⟩
 | a :: r, zs, h => by
  obtain ⟨h1, h2⟩ := j9_ r (cx_ zs a) (jp_ a zs h)
  refine ⟨h1, fun m => ?_⟩
  rw [foldl_cons, h2, j3_, mem_cons]
  constructor
  ·rintro (q | q | q) <;> simp [q]
  ·rintro ((q | q) | q) <;> simp [q]
theorem gu_ (m : Int) : ∀ zs : List Int, m ∈ aT_ zs ↔ m ∈ zs
 | [] => by simp [aT_]
 | [x] => by simp [aT_]
 | x :: y :: r => by
  have ih := gu_ m (y :: r)
  simp only [aT_]
  split
  ·rename_i h; subst h; rw [ih]; simp
  ·rw [mem_cons, ih, mem_cons (a := m) (b := x)]
theorem hc_ : ∀ zs : List Int, zs.Pairwise (· ≤ ·) → (aT_ zs).Pairwise (· < ·)
 | [], _ => by simp [aT_]
 | [x], _ => by simp [aT_]
 | x :: y :: r, h => by
  obtain ⟨h1, h2⟩ := pairwise_cons.1 h
  have ih := hc_ (y :: r) h2
  simp only [aT_]
  split
  ·exact ih
  ·rename_i hne
   refine pairwise_cons.2 ⟨fun a ha => ?_, ih⟩
   have ha' := (gu_ a (y :: r)).1 ha
   have q := h1 a ha'
   have q2 := h1 y (by simp)
   rcases mem_cons.1 ha' with e | e
   ·subst e; omega
   ·have := (pairwise_cons.1 h2).1 a e; omega
theorem jA_ : ∀ l1 l2 : List Int, l1.Pairwise (· < ·) → l2.Pairwise (· < ·) → (∀ x, x ∈ l1 ↔ x ∈ l2) → l1 = l2
 | [], [], _, _, _ => rfl
 | [], b :: r, _, _, h => by have := (h b).2 (by simp); simp at this
 | a :: r, [], _, _, h => by have := (h a).1 (by simp); simp at this
 | a :: r, b :: q, h1, h2, h => by
  obtain ⟨p1, p2⟩ := pairwise_cons.1 h1
  obtain ⟨q1, q2⟩ := pairwise_cons.1 h2
  have e : a = b := by
   have m1 := (h a).1 (by simp)
   have m2 := (h b).2 (by simp)
   rcases mem_cons.1 m1 with e | e
   ·exact e
   ·rcases mem_cons.1 m2 with e' | e'
    ·exact e'.symm
    ·have := p1 b e'; have := q1 a e; omega
  subst e
  rw [jA_ r q p2 q2 fun x => ?_]
  constructor
  ·intro hx
   rcases mem_cons.1 ((h x).1 (by simp [hx])) with e | e
   ·subst e; have := p1 x hx; omega
   ·exact e
  ·intro hx
   rcases mem_cons.1 ((h x).2 (by simp [hx])) with e | e
   ·subst e; have := q1 x hx; omega
   ·exact e
theorem mN_ (zs : List Int) : (cW_ zs).Pairwise (· ≤ ·) := by
 have := pairwise_mergeSort (le := fun x y : Int => decide (x ≤ y)) (fun a b c h1 h2 => by simp at *; omega) (fun a b => by simp; omega) zs
 exact this.imp fun h => by simpa using h
theorem qB_ (m : Int) (zs : List Int) : m ∈ cW_ zs ↔ m ∈ zs := (mergeSort_perm zs _).mem_iff
theorem iw_ : ∀ zs : List Int, (aT_ zs).length ≤ zs.length
 | [] => Nat.le_refl _
 | [x] => Nat.le_refl _
 | x :: y :: r => by
  have := iw_ (y :: r)
  simp only [aT_]
  split <;> simp only [lc_] at * <;> omega
theorem rK_ (l : List Int) : aT_ (cW_ l) = l.foldl cx_ [] := by
 obtain ⟨h1, h2⟩ := j9_ l [] List.Pairwise.nil
 refine jA_ _ _ (hc_ _ (mN_ l)) h1 fun x => ?_
 rw [gu_, qB_, h2]; simp
end Go.AW
