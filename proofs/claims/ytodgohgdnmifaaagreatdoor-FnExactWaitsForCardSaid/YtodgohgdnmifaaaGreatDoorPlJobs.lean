/-
  Numbers that are sorted and made single, and numbers that are put to their places one by one, are the same. Nothing of any program.
-/
import Derived.Test.YtodgohgdnmifaaaGreatDoorAwC
namespace Go.AW
set_option linter.unusedSimpArgs false

/-- A number is put to its place among rising ones, once. -/
def putI : List Int → Int → List Int
  | [], n => [n]
  | z :: r, n => if n ≤ z then (if n < z then n :: z :: r else z :: r) else z :: putI r n
/-- Runs of equal numbers become one. -/
def compactL : List Int → List Int
  | [] => []
  | [x] => [x]
  | x :: y :: r => if x = y then compactL (y :: r) else x :: compactL (y :: r)
theorem mem_putI (m n : Int) : ∀ zs : List Int, m ∈ putI zs n ↔ m = n ∨ m ∈ zs
  | [] => by simp [putI]
  | z :: r => by
    have ih := mem_putI m n r
    simp only [putI]
    split
    · split
      · simp
      · rename_i h1 h2
        have e : n = z := by omega
        subst e; simp
    · simp only [List.mem_cons, ih]
      constructor <;> (intro h; rcases h with h | h | h <;> simp [h])
theorem putI_sorted (n : Int) : ∀ zs : List Int, zs.Pairwise (· < ·) → (putI zs n).Pairwise (· < ·)
  | [], _ => by simp [putI]
  | z :: r, h => by
    obtain ⟨h1, h2⟩ := List.pairwise_cons.1 h
    simp only [putI]
    split
    · split
      · rename_i h3 h4
        refine List.pairwise_cons.2 ⟨fun a ha => ?_, h⟩
        rcases List.mem_cons.1 ha with e | e
        · subst e; exact h4
        · have := h1 a e; omega
      · exact h
    · rename_i h3
      refine List.pairwise_cons.2 ⟨fun a ha => ?_, putI_sorted n r h2⟩
      rcases (mem_putI a n r).1 ha with e | e
      · subst e; omega
      · exact h1 a e
theorem foldl_putI : ∀ (l zs : List Int), zs.Pairwise (· < ·) → (l.foldl putI zs).Pairwise (· < ·) ∧ ∀ m, m ∈ l.foldl putI zs ↔ m ∈ l ∨ m ∈ zs
  | [], zs, h => ⟨h, by simp⟩
  | a :: r, zs, h => by
    obtain ⟨h1, h2⟩ := foldl_putI r (putI zs a) (putI_sorted a zs h)
    refine ⟨h1, fun m => ?_⟩
    rw [List.foldl_cons, h2, mem_putI, List.mem_cons]
    constructor
    · rintro (q | q | q) <;> simp [q]
    · rintro ((q | q) | q) <;> simp [q]
theorem mem_compactL (m : Int) : ∀ zs : List Int, m ∈ compactL zs ↔ m ∈ zs
  | [] => by simp [compactL]
  | [x] => by simp [compactL]
  | x :: y :: r => by
    have ih := mem_compactL m (y :: r)
    simp only [compactL]
    split
    · rename_i h; subst h; rw [ih]; simp
    · rw [List.mem_cons, ih, List.mem_cons (a := m) (b := x)]
theorem compactL_sorted : ∀ zs : List Int, zs.Pairwise (· ≤ ·) → (compactL zs).Pairwise (· < ·)
  | [], _ => by simp [compactL]
  | [x], _ => by simp [compactL]
  | x :: y :: r, h => by
    obtain ⟨h1, h2⟩ := List.pairwise_cons.1 h
    have ih := compactL_sorted (y :: r) h2
    simp only [compactL]
    split
    · exact ih
    · rename_i hne
      refine List.pairwise_cons.2 ⟨fun a ha => ?_, ih⟩
      have ha' := (mem_compactL a (y :: r)).1 ha
      have q := h1 a ha'
      have q2 := h1 y (by simp)
      rcases List.mem_cons.1 ha' with e | e
      · subst e; omega
      · have := (List.pairwise_cons.1 h2).1 a e; omega
theorem strict_same : ∀ l1 l2 : List Int, l1.Pairwise (· < ·) → l2.Pairwise (· < ·) → (∀ x, x ∈ l1 ↔ x ∈ l2) → l1 = l2
  | [], [], _, _, _ => rfl
  | [], b :: r, _, _, h => by have := (h b).2 (by simp); simp at this
  | a :: r, [], _, _, h => by have := (h a).1 (by simp); simp at this
  | a :: r, b :: q, h1, h2, h => by
    obtain ⟨p1, p2⟩ := List.pairwise_cons.1 h1
    obtain ⟨q1, q2⟩ := List.pairwise_cons.1 h2
    have e : a = b := by
      have m1 := (h a).1 (by simp)
      have m2 := (h b).2 (by simp)
      rcases List.mem_cons.1 m1 with e | e
      · exact e
      · rcases List.mem_cons.1 m2 with e' | e'
        · exact e'.symm
        · have := p1 b e'; have := q1 a e; omega
    subst e
    rw [strict_same r q p2 q2 fun x => ?_]
    constructor
    · intro hx
      rcases List.mem_cons.1 ((h x).1 (by simp [hx])) with e | e
      · subst e; have := p1 x hx; omega
      · exact e
    · intro hx
      rcases List.mem_cons.1 ((h x).2 (by simp [hx])) with e | e
      · subst e; have := q1 x hx; omega
      · exact e
theorem sortI_sorted (zs : List Int) : (sortI zs).Pairwise (· ≤ ·) := by
  have := List.pairwise_mergeSort (le := fun x y : Int => decide (x ≤ y)) (fun a b c h1 h2 => by simp at *; omega) (fun a b => by simp; omega) zs
  exact this.imp fun h => by simpa using h
theorem mem_sortI (m : Int) (zs : List Int) : m ∈ sortI zs ↔ m ∈ zs := (List.mergeSort_perm zs _).mem_iff
theorem compactL_most : ∀ zs : List Int, (compactL zs).length ≤ zs.length
  | [] => Nat.le_refl _
  | [x] => Nat.le_refl _
  | x :: y :: r => by
    have := compactL_most (y :: r)
    simp only [compactL]
    split <;> simp only [List.length_cons] at * <;> omega
/-- THE TWO WAYS AGREE. -/
theorem sort_put (l : List Int) : compactL (sortI l) = l.foldl putI [] := by
  obtain ⟨h1, h2⟩ := foldl_putI l [] List.Pairwise.nil
  refine strict_same _ _ (compactL_sorted _ (sortI_sorted l)) h1 fun x => ?_
  rw [mem_compactL, mem_sortI, h2]; simp
end Go.AW
