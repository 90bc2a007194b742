/-
  The pieces of a text between marks (a mark is the byte 94), in plain Lean.
-/
import Derived.Lib.SplitLaws
import Derived.Lib.Join
namespace Go.Plain

def glue (a : List UInt8) : List (List UInt8) → List (List UInt8)
  | [] => [a]
  | p :: ps => (a ++ p) :: ps
def pieces : List UInt8 → List (List UInt8)
  | [] => [[]]
  | b :: l => if b = 94 then [] :: pieces l else glue [b] (pieces l)
theorem pieces_mark (l : List UInt8) : pieces (94 :: l) = [] :: pieces l := by rw [pieces, if_pos rfl]
theorem pieces_byte {b : UInt8} (h : b ≠ 94) (l : List UInt8) : pieces (b :: l) = glue [b] (pieces l) := by rw [pieces, if_neg h]
theorem glue_ne (a : List UInt8) (X : List (List UInt8)) : glue a X ≠ [] := by cases X <;> simp [glue]
theorem pieces_ne (l : List UInt8) : pieces l ≠ [] := by
  cases l with
  | nil => simp [pieces]
  | cons b l =>
    by_cases h : b = 94
    · subst h; rw [pieces_mark]; simp
    · rw [pieces_byte h]; exact glue_ne _ _
theorem glue_nil {X : List (List UInt8)} (h : X ≠ []) : glue [] X = X := by
  cases X with
  | nil => exact absurd rfl h
  | cons p ps => simp [glue]
theorem glue_glue (a b : List UInt8) (X : List (List UInt8)) : glue a (glue b X) = glue (a ++ b) X := by
  cases X <;> simp [glue]
theorem glue_mark (a : List UInt8) (X : List (List UInt8)) : glue a ([] :: X) = a :: X := by simp [glue]
theorem glue_end (a : List UInt8) : glue a [[]] = [a] := by simp [glue]
open Lib in
theorem splitK_pieces : ∀ l : List UInt8, splitK [94] 0 (count l [94]) l = pieces l
  | [] => by rw [count_miss (by simp [index])]; rfl
  | b :: l => by
    have ih := splitK_pieces l
    by_cases h : b = 94
    · subst h
      rw [count_cons_eq, pieces_mark, ← ih, Nat.add_comm 1, splitK]
      have hix : index (94 :: l) [94] = 0 := by rw [index]; simp [List.isPrefixOf]
      rw [hix, if_neg (by decide)]
      simp
    · rw [count_cons_ne b 94 l h, pieces_byte h]
      have hp : ([94] : List UInt8).isPrefixOf (b :: l) = false := by simp [List.isPrefixOf, Ne.symm h]
      have hix : index (b :: l) [94] = if index l [94] == -1 then -1 else index l [94] + 1 := by rw [index, hp]; simp
      rw [← ih]
      by_cases hm : index l [94] = -1
      · rw [count_miss hm]; rfl
      · have hge := index_ge l [94]
        obtain ⟨j, hj⟩ : ∃ j : Nat, index l [94] = j := ⟨(index l [94]).toNat, by omega⟩
        have hix' : index (b :: l) [94] = ((j + 1 : Nat) : Int) := by rw [hix, if_neg (fun e => hm (beq_iff_eq.1 e)), hj]; omega
        rw [count_hit (by simp) hj, Nat.add_comm 1, splitK, splitK, hix', hj, if_neg (by intro e; have := beq_iff_eq.1 e; omega), if_neg (by intro e; have := beq_iff_eq.1 e; omega)]
        simp [glue]
theorem pieces_len : ∀ l : List UInt8, (pieces l).length ≤ l.length + 1
  | [] => by simp [pieces]
  | b :: l => by
    have ih := pieces_len l
    by_cases h : b = 94
    · subst h; rw [pieces_mark]; simp; omega
    · rw [pieces_byte h]
      cases q : pieces l with
      | nil => exact absurd q (pieces_ne l)
      | cons p ps => rw [q] at ih; simp [glue] at ih ⊢; omega
theorem pieces_mem : ∀ (l : List UInt8), ∀ p ∈ pieces l, p.length ≤ l.length
  | [], p, h => by simp [pieces] at h; subst h; exact Nat.le_refl _
  | b :: l, p, h => by
    have ih := pieces_mem l
    by_cases hb : b = 94
    · subst hb
      rw [pieces_mark] at h
      rcases List.mem_cons.1 h with e | e
      · subst e; simp
      · have := ih p e; simp; omega
    · rw [pieces_byte hb] at h
      cases q : pieces l with
      | nil => exact absurd q (pieces_ne l)
      | cons p0 ps =>
        rw [q] at h ih
        rcases List.mem_cons.1 h with e | e
        · subst e; have := ih p0 (by simp); simp; omega
        · have := ih p (by simp [e]); simp; omega
open Lib in
theorem join_pieces : ∀ l : List UInt8, join (pieces l) [94] = l
  | [] => by simp [pieces, join_one]
  | b :: l => by
    have ih := join_pieces l
    cases q : pieces l with
    | nil => exact absurd q (pieces_ne l)
    | cons p ps =>
      rw [q, join_cons] at ih
      by_cases hb : b = 94
      · subst hb
        rw [pieces_mark, q, join_cons, joinTail, List.map_cons, List.flatten_cons]
        rw [joinTail] at ih
        show [94] ++ p ++ _ = _
        rw [List.append_assoc, ih]; rfl
      · rw [pieces_byte hb, q]
        simp only [glue, join_cons, List.cons_append, List.nil_append, ih]
end Go.Plain
