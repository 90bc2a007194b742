/-
 Numbers that are sorted and made single, and numbers that are put to their places one by one, are the same. Nothing of any program.
-/
import Derived.Test.YtodgohgdnmifaaaGreatDoorAwC
namespace Go.AW
open List
set_option linter.unusedSimpArgs false
def bI_ : List Int → Int → List Int
 | [], n => [n]
 | z :: r, n => if n ≤ z then (if n < z then n :: z :: r else z :: r) else z :: bI_ r n
def aV_ : List Int → List Int
 | [] => []
 | [x] => [x]
 | x :: y :: r => if x = y then aV_ (y :: r) else x :: aV_ (y :: r)
theorem jj_ (m n : Int) : ∀ zs : List Int, m ∈ bI_ zs n ↔ m = n ∨ m ∈ zs
 | [] => by simp [bI_]
 | z :: r => by
  have ih := jj_ m n r
  simp only [bI_]
  split
  ·split
   ·simp
   ·rename_i h1 h2
    have e : n = z := by omega
    subst e; simp
  ·simp only [mem_cons, ih]
   constructor <;> (intro h; rcases h with h | h | h <;> simp [h])
theorem iU_ (n : Int) : ∀ zs : List Int, zs.Pairwise (· < ·) → (bI_ zs n).Pairwise (· < ·)
 | [], _ => by simp [bI_]
 | z :: r, h => by
  obtain ⟨h1, h2⟩ := pairwise_cons.1 h
  simp only [bI_]
  split
  ·split
   ·rename_i h3 h4
    refine pairwise_cons.2 ⟨fun a ha => ?_, h⟩
    rcases mem_cons.1 ha with e | e
    ·subst e; exact h4
    ·have := h1 a e; omega
   ·exact h
  ·rename_i h3
   refine pairwise_cons.2 ⟨fun a ha => ?_, iU_ n r h2⟩
   rcases (jj_ a n r).1 ha with e | e
   ·subst e; omega
   ·exact h1 a e
theorem js_ : ∀ (l zs : List Int), zs.Pairwise (· < ·) → (l.foldl bI_ zs).Pairwise (· < ·) ∧ ∀ m, m ∈ l.foldl bI_ zs ↔ m ∈ l ∨ m ∈ zs
 | [], zs, h => ⟨h, by simp⟩
 | a :: r, zs, h => by
  obtain ⟨h1, h2⟩ := js_ r (bI_ zs a) (iU_ a zs h)
  refine ⟨h1, fun m => ?_⟩
  rw [foldl_cons, h2, jj_, mem_cons]
  constructor
  ·rintro (q | q | q) <;> simp [q]
  ·rintro ((q | q) | q) <;> simp [q]
theorem fW_ (m : Int) : ∀ zs : List Int, m ∈ aV_ zs ↔ m ∈ zs
 | [] => by simp [aV_]
 | [x] => by simp [aV_]
 | x :: y :: r => by
  have ih := fW_ m (y :: r)
  simp only [aV_]
  split
  ·rename_i h; subst h; rw [ih]; simp
  ·rw [mem_cons, ih, mem_cons (a := m) (b := x)]
theorem gm_ : ∀ zs : List Int, zs.Pairwise (· ≤ ·) → (aV_ zs).Pairwise (· < ·)
 | [], _ => by simp [aV_]
 | [x], _ => by simp [aV_]
 | x :: y :: r, h => by
  obtain ⟨h1, h2⟩ := pairwise_cons.1 h
  have ih := gm_ (y :: r) h2
  simp only [aV_]
  split
  ·exact ih
  ·rename_i hne
   refine pairwise_cons.2 ⟨fun a ha => ?_, ih⟩
   have ha' := (fW_ a (y :: r)).1 ha
   have q := h1 a ha'
   have q2 := h1 y (by simp)
   rcases mem_cons.1 ha' with e | e
   ·subst e; omega
   ·have := (pairwise_cons.1 h2).1 a e; omega
theorem iT_ : ∀ l1 l2 : List Int, l1.Pairwise (· < ·) → l2.Pairwise (· < ·) → (∀ x, x ∈ l1 ↔ x ∈ l2) → l1 = l2
 | [], [], _, _, _ => rfl
 | [], b :: r, _, _, h => by have := (h b).2 (by simp); simp at this
 | a :: r, [], _, _, h => by have := (h a).1 (by simp); simp at this
 | a :: r, b :: q, h1, h2, h => by
  obtain ⟨p1, p2⟩ := pairwise_cons.1 h1
  obtain ⟨q1, q2⟩ := pairwise_cons.1 h2
  have e : a = b := by
   have m1 := (h a).1 (by simp)
   have m2 := (h b).2 (by simp)
   rcases mem_cons.1 m1 with e | e
   ·exact e
   ·rcases mem_cons.1 m2 with e' | e'
    ·exact e'.symm
    ·have := p1 b e'; have := q1 a e; omega
  subst e
  rw [iT_ r q p2 q2 fun x => ?_]
  constructor
  ·intro hx
   rcases mem_cons.1 ((h x).1 (by simp [hx])) with e | e
   ·subst e; have := p1 x hx; omega
   ·exact e
  ·intro hx
   rcases mem_cons.1 ((h x).2 (by simp [hx])) with e | e
   ·subst e; have := q1 x hx; omega
   ·exact e
theorem ij_ (zs : List Int) : (bJ_ zs).Pairwise (· ≤ ·) := by
 have := pairwise_mergeSort (le := fun x y : Int => decide (x ≤ y)) (fun a b c h1 h2 => by simp at *; omega) (fun a b => by simp; omega) zs
 exact this.imp fun h => by simpa using h
theorem pa_ (m : Int) (zs : List Int) : m ∈ bJ_ zs ↔ m ∈ zs := (mergeSort_perm zs _).mem_iff
theorem hS_ : ∀ zs : List Int, (aV_ zs).length ≤ zs.length
 | [] => Nat.le_refl _
 | [x] => Nat.le_refl _
 | x :: y :: r => by
  have := hS_ (y :: r)
  simp only [aV_]
  split <;> simp only [lc_] at * <;> omega
theorem lO_ (l : List Int) : aV_ (bJ_ l) = l.foldl bI_ [] := by
 obtain ⟨h1, h2⟩ := js_ l [] List.Pairwise.nil
 refine iT_ _ _ (gm_ _ (ij_ l)) h1 fun x => ?_
 rw [fW_, pa_, h2]; simp
end Go.AW
