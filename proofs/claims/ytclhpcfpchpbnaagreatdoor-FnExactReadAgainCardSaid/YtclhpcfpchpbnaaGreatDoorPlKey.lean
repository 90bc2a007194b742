/-
  Plain keys of subscripts: the text in which a list of subscripts is put, and the two ways in which it is read back. Nothing of any program.
-/
import Derived.Test.YtclhpcfpchpbnaaGreatDoorPlOrd
namespace Go.AW

def byteAt (n j : Nat) : UInt8 := UInt8.ofNat (n / 256 ^ j % 256)
def be8 (n : Nat) : List UInt8 := [byteAt n 7, byteAt n 6, byteAt n 5, byteAt n 4, byteAt n 3, byteAt n 2, byteAt n 1, byteAt n 0]
def ofBe (acc : Nat) (l : List UInt8) : Nat := l.foldl (fun a b => a * 256 + b.toNat) acc
theorem byteAt_toNat (n j : Nat) : (byteAt n j).toNat = n / 256 ^ j % 256 := by
  unfold byteAt; rw [UInt8.toNat_ofNat']; omega
theorem ofBe_be8 (n : Nat) (h : n < 18446744073709551616) : ofBe 0 (be8 n) = n := by
  simp only [ofBe, be8, List.foldl_cons, List.foldl_nil, byteAt_toNat, Nat.reducePow]
  omega
theorem ofBe_nil (acc : Nat) : ofBe acc [] = acc := by unfold ofBe; rw [List.foldl_nil]
theorem ofBe_cons (acc : Nat) (b : UInt8) (l : List UInt8) : ofBe acc (b :: l) = ofBe (acc * 256 + b.toNat) l := by unfold ofBe; rw [List.foldl_cons]
theorem ofBe_lt : ∀ (l : List UInt8) (acc : Nat), ofBe acc l < (acc + 1) * 256 ^ l.length
  | [], acc => by rw [ofBe_nil]; simp
  | b :: l, acc => by
    rw [ofBe_cons]
    have h := ofBe_lt l (acc * 256 + b.toNat)
    have hb := b.toNat_lt
    have h2 : (acc * 256 + b.toNat + 1) * 256 ^ l.length ≤ ((acc + 1) * 256) * 256 ^ l.length := Nat.mul_le_mul_right _ (by omega)
    rw [List.length_cons, Nat.pow_succ, Nat.mul_comm (256 ^ l.length), ← Nat.mul_assoc]
    omega

def esc : List UInt8 → List UInt8
  | [] => []
  | b :: l => if b = 0 then 0 :: 255 :: esc l else b :: esc l
def keyNum (l : List UInt8) : Nat := (numOf l + 1000000000000000000).toNat
def subKey (l : List UInt8) : List UInt8 := if canon l then 1 :: be8 (keyNum l) else 2 :: (esc l ++ [0, 0])
def putL (xs : List (List UInt8)) : List UInt8 := xs.flatMap subKey
theorem putL_nil : putL [] = [] := rfl
theorem putL_cons (x : List UInt8) (xs : List (List UInt8)) : putL (x :: xs) = subKey x ++ putL xs := rfl
theorem subKey_ne (l : List UInt8) : subKey l ≠ [] := by unfold subKey; split <;> simp
theorem keyNum_le (l : List UInt8) : 1 ≤ keyNum l ∧ keyNum l ≤ 1999999999999999999 := by
  have := numOf_le l
  unfold keyNum; omega
theorem keyNum_eq (l : List UInt8) : ((keyNum l : Nat) : Int) = numOf l + 1000000000000000000 := by
  have := numOf_le l
  unfold keyNum; omega
theorem esc_length : ∀ l : List UInt8, (esc l).length ≤ 2 * l.length
  | [] => by simp [esc]
  | b :: l => by
    have := esc_length l
    unfold esc
    split <;> simp only [List.length_cons] <;> omega
theorem subKey_length (l : List UInt8) : (subKey l).length ≤ 2 * l.length + 9 := by
  have := esc_length l
  unfold subKey
  split
  · simp [be8]
  · simp only [List.length_cons, List.length_append, List.length_nil]; omega

/-- A text is read back. -/
def unesc : List UInt8 → List UInt8 → Option (List UInt8 × List UInt8)
  | b :: c :: r, acc => if b = 0 then (if c = 0 then some (acc, r) else if c = 255 then unesc r (acc ++ [0]) else none) else unesc (c :: r) (acc ++ [b])
  | [_], _ => none
  | [], _ => none
theorem unesc_two (b c : UInt8) (r acc : List UInt8) : unesc (b :: c :: r) acc = if b = 0 then (if c = 0 then some (acc, r) else if c = 255 then unesc r (acc ++ [0]) else none) else unesc (c :: r) (acc ++ [b]) := by
  rw [unesc]
theorem unesc_short (l acc : List UInt8) (h : l.length < 2) : unesc l acc = none := by
  match l, h with
  | [], _ => rw [unesc]
  | [_], _ => rw [unesc]
theorem unesc_drop (l acc : List UInt8) (i : Nat) (h : i + 1 < l.length) : unesc (l.drop i) acc = if l[i] = 0 then (if l[i + 1] = 0 then some (acc, l.drop (i + 2)) else if l[i + 1] = 255 then unesc (l.drop (i + 2)) (acc ++ [0]) else none) else unesc (l.drop (i + 1)) (acc ++ [l[i]]) := by
  rw [List.drop_eq_getElem_cons (by omega : i < l.length), List.drop_eq_getElem_cons h, unesc_two]
theorem unesc_end (l acc : List UInt8) (i : Nat) (h : l.length ≤ i + 1) : unesc (l.drop i) acc = none :=
  unesc_short _ _ (by rw [List.length_drop]; omega)
theorem unesc_len : ∀ (l acc t r : List UInt8), unesc l acc = some (t, r) → t.length ≤ acc.length + l.length ∧ r.length ≤ l.length
  | [], acc, t, r, h => by rw [unesc] at h; cases h
  | [_], acc, t, r, h => by rw [unesc] at h; cases h
  | b :: c :: l, acc, t, r, h => by
    rw [unesc_two] at h
    split at h
    · split at h
      · simp only [Option.some.injEq, Prod.mk.injEq] at h
        obtain ⟨rfl, rfl⟩ := h
        simp only [List.length_cons]; omega
      · split at h
        · have := unesc_len l _ t r h
          simp only [List.length_append, List.length_cons, List.length_nil] at this ⊢; omega
        · cases h
    · have := unesc_len (c :: l) _ t r h
      simp only [List.length_append, List.length_cons, List.length_nil] at this ⊢; omega
theorem unesc_esc : ∀ (x rest acc : List UInt8), unesc (esc x ++ (0 :: 0 :: rest)) acc = some (acc ++ x, rest)
  | [], rest, acc => by
    rw [esc, List.nil_append, unesc_two, if_pos rfl, if_pos rfl, List.append_nil]
  | b :: x, rest, acc => by
    have ih := unesc_esc x rest (acc ++ [b])
    by_cases h : b = 0
    · subst h
      rw [esc, if_pos rfl, List.cons_append, List.cons_append, unesc_two, if_pos rfl, if_neg (by decide), if_pos rfl, ih, List.append_assoc]
      rfl
    · rw [esc, if_neg h, List.cons_append]
      cases hq : esc x ++ (0 :: 0 :: rest) with
      | nil => simp at hq
      | cons c r => rw [unesc_two, if_neg h, ← hq, ih, List.append_assoc]; rfl

def numTextK (n : Int) : List UInt8 := if -999999999999999999 ≤ n ∧ n ≤ 999999999999999999 then numText n else []
/-- One subscript: impl's way, spec's way. -/
def takeI : List UInt8 → Option (List UInt8 × List UInt8)
  | [] => none
  | b :: l => if b = 1 then (if l.length < 8 then none else if 2000000000000000000 < ofBe 0 (l.take 8) then none else some (numTextK ((ofBe 0 (l.take 8) : Int) - 1000000000000000000), l.drop 8))
    else if b = 2 then unesc l [] else none
def takeS : List UInt8 → Option (List UInt8 × List UInt8)
  | [] => none
  | b :: l => if b = 1 ∧ 8 ≤ l.length then (if 1 ≤ ofBe 0 (l.take 8) ∧ ofBe 0 (l.take 8) ≤ 1999999999999999999 then some (numText ((ofBe 0 (l.take 8) : Int) - 1000000000000000000), l.drop 8) else none)
    else if b = 2 then unesc l [] else none
theorem be8_length (n : Nat) : (be8 n).length = 8 := rfl
theorem take_be8 (n : Nat) (r : List UInt8) : (be8 n ++ r).take 8 = be8 n := List.take_left' (be8_length n)
theorem drop_be8 (n : Nat) (r : List UInt8) : (be8 n ++ r).drop 8 = r := List.drop_left' (be8_length n)
theorem takeI_key (x r : List UInt8) : takeI (subKey x ++ r) = some (x, r) := by
  unfold subKey
  by_cases h : canon x = true
  · have hk := keyNum_le x
    have hq := keyNum_eq x
    rw [if_pos h, List.cons_append, takeI, if_pos rfl, if_neg (by simp [be8_length]), take_be8, drop_be8, ofBe_be8 _ (by omega), if_neg (by omega)]
    have e : ((keyNum x : Nat) : Int) - 1000000000000000000 = numOf x := by omega
    have hn := numOf_le x
    rw [e, numTextK, if_pos hn, of_decide_eq_true (by exact h : decide (numText (numOf x) = x) = true)]
  · rw [if_neg h, List.cons_append, takeI, if_neg (by decide), if_pos rfl, List.append_assoc]
    exact unesc_esc x r []
theorem takeS_key (x r : List UInt8) : takeS (subKey x ++ r) = some (x, r) := by
  unfold subKey
  by_cases h : canon x = true
  · have hk := keyNum_le x
    have hq := keyNum_eq x
    rw [if_pos h, List.cons_append, takeS, if_pos ⟨rfl, by simp [be8_length]⟩, take_be8, drop_be8, ofBe_be8 _ (by omega), if_pos (by omega)]
    have e : ((keyNum x : Nat) : Int) - 1000000000000000000 = numOf x := by omega
    rw [e, of_decide_eq_true (by exact h : decide (numText (numOf x) = x) = true)]
  · rw [if_neg h, List.cons_append, takeS, if_neg (by rintro ⟨q, _⟩; exact absurd q (by decide)), if_pos rfl, List.append_assoc]
    exact unesc_esc x r []
theorem takeI_len (l t r : List UInt8) (h : takeI l = some (t, r)) : t.length ≤ l.length + 20 ∧ r.length < l.length := by
  cases l with
  | nil => cases h
  | cons b l =>
    rw [takeI] at h
    split at h
    · split at h
      · cases h
      · split at h
        · cases h
        · simp only [Option.some.injEq, Prod.mk.injEq] at h
          obtain ⟨rfl, rfl⟩ := h
          refine ⟨?_, by simp only [List.length_drop, List.length_cons]; omega⟩
          unfold numTextK
          split
          · rename_i q; have := numText_length q.1 q.2; simp only [List.length_cons]; omega
          · simp
    · split at h
      · have := unesc_len l [] t r h
        simp only [List.length_nil, List.length_cons] at this ⊢; omega
      · cases h
theorem takeS_len (l t r : List UInt8) (h : takeS l = some (t, r)) : t.length ≤ l.length + 20 ∧ r.length < l.length := by
  cases l with
  | nil => cases h
  | cons b l =>
    rw [takeS] at h
    split at h
    · split at h
      · rename_i q
        simp only [Option.some.injEq, Prod.mk.injEq] at h
        obtain ⟨rfl, rfl⟩ := h
        refine ⟨?_, by simp only [List.length_drop, List.length_cons]; omega⟩
        have := numText_length (n := (ofBe 0 (l.take 8) : Int) - 1000000000000000000) (by omega) (by omega)
        simp only [List.length_cons]; omega
      · cases h
    · split at h
      · have := unesc_len l [] t r h
        simp only [List.length_nil, List.length_cons] at this ⊢; omega
      · cases h

def subL (x : List UInt8) : Bool := decide (1 ≤ x.length) && decide (x.length ≤ 24)
def subsL (xs : List (List UInt8)) : Bool := decide (xs.length ≤ 4) && xs.all subL
/-- The loop of both: at most five are read. -/
def runG (take : List UInt8 → Option (List UInt8 × List UInt8)) : Nat → List UInt8 → List (List UInt8) → Option (List (List UInt8) × List UInt8)
  | 0, left, out => some (out, left)
  | f + 1, left, out => if left = [] then some (out, left) else match take left with
    | none => none
    | some (t, r) => runG take f r (out ++ [t])
def getL (take : List UInt8 → Option (List UInt8 × List UInt8)) (s : List UInt8) : Option (List (List UInt8)) :=
  match runG take 5 s [] with
  | none => none
  | some (out, left) => if left = [] ∧ subsL out = true ∧ putL out = s then some out else none
theorem runG_put {take : List UInt8 → Option (List UInt8 × List UInt8)} (hA : ∀ x r, take (subKey x ++ r) = some (x, r)) : ∀ (xs : List (List UInt8)) (f : Nat) (out : List (List UInt8)), xs.length ≤ f → runG take f (putL xs) out = some (out ++ xs, [])
  | [], 0, out, _ => by rw [runG, putL_nil, List.append_nil]
  | [], f + 1, out, _ => by rw [runG, putL_nil, if_pos rfl, List.append_nil]
  | x :: xs, 0, out, h => by simp at h
  | x :: xs, f + 1, out, h => by
    rw [runG, putL_cons, if_neg (by simp [subKey_ne]), hA]
    simp only
    rw [runG_put hA xs f _ (by simpa using h), List.append_assoc]; rfl
theorem getL_iff {take : List UInt8 → Option (List UInt8 × List UInt8)} (hA : ∀ x r, take (subKey x ++ r) = some (x, r)) (s : List UInt8) (xs : List (List UInt8)) : getL take s = some xs ↔ subsL xs = true ∧ putL xs = s := by
  constructor
  · intro h
    unfold getL at h
    split at h
    · cases h
    · rename_i out left _
      split at h
      · rename_i q
        simp only [Option.some.injEq] at h
        subst h
        exact q.2
      · cases h
  · rintro ⟨h1, h2⟩
    have hl : xs.length ≤ 4 := by simp only [subsL, Bool.and_eq_true, decide_eq_true_eq] at h1; exact h1.1
    have := runG_put hA xs 5 [] (by omega)
    rw [h2, List.nil_append] at this
    unfold getL
    rw [this]
    simp only
    rw [if_pos ⟨trivial, h1, h2⟩]
theorem getL_same (s : List UInt8) : getL takeI s = getL takeS s := by
  cases h : getL takeS s with
  | some xs => exact (getL_iff takeI_key s xs).2 ((getL_iff takeS_key s xs).1 h)
  | none =>
    cases h2 : getL takeI s with
    | none => rfl
    | some xs =>
      have := (getL_iff takeS_key s xs).2 ((getL_iff takeI_key s xs).1 h2)
      rw [h] at this; cases this
end Go.AW
