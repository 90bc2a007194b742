/-
  AW: the library's looks at a text's runes, with a function value of the program's own.
-/
import Derived.Test.YtkddmakjmjmokaaGreatDoorAwC
import Derived.Shelf.Strings.FuncGrows
import Derived.Laws.RangeString
import Derived.Laws.Runes
namespace Go.AW
open Go.RowKit (Below)
open Go.Proofs (encR PredGrows)
set_option linter.unusedVariables false

theorem pred_pays {P : Program} {g : FuncId} {S : Sit} {h : List Row} {w : World} (p : Nat → Bool) (hp : ∀ x : Nat, x ≤ 1114111 → ∀ h, PureCall P g [.val (.int .i32 (x : Int))] h (.val (.bool (p x)))) (hm : Models S h w) (hgl : Glob P S) : PredGrows P g #[] p w := by
  intro W x hx hB
  have hmW := hm.below hB
  have hm0 : Models (S.shut W) [] W := ⟨hmW.shut, rfl, by simp [Sit.shut], by simp [Sit.shut]⟩
  refine ((hp x hx []) (fun q _ => q = .val (.bool (p x))) rfl (S.shut W) W _ hm0 (hgl.shut hmW) (by simp [RepL, Rep, encR])).mono ?_
  rintro e w' ⟨v, av, S1, h1, rfl, st, hm1, rv, rfl⟩
  simp only [Rep] at rv
  subst rv
  exact ⟨rfl, st.os, st.tape, st.output, st.size, fun k hk => st.block k hk (by rintro ⟨l, i, q, _⟩; simp [Sit.shut] at q)⟩
theorem contains_pure {P : Program} {f g : FuncId} (p : Nat → Bool)
    (hC : ∀ (s : ByteArray) (w : World), PredGrows P g #[] p w → Calls P f #[.string s, .func (.func g) #[] #[]] w fun e w' => e = .returned (.bool (decide (0 ≤ Lib.idxFunc p true s))) ∧ Below w.heap.size w w')
    (hp : ∀ x : Nat, x ≤ 1114111 → ∀ h, PureCall P g [.val (.int .i32 (x : Int))] h (.val (.bool (p x)))) (s : ByteArray) (h : List Row) : PureCall P f [.val (.string s), .fn g [] []] h (.val (.bool (decide (0 ≤ Lib.idxFunc p true s)))) := by
  intro K hk S w vals hm hgl hr
  simp only [RepL] at hr
  obtain ⟨x, r, e, rx, y, r2, e2, ry, e3⟩ := hr
  subst e3 e2
  simp only [Rep] at rx ry
  obtain ⟨vs, us, rfl, r5, r6⟩ := ry
  simp only [RepL] at r5 r6
  have ev : vs = #[] := by cases vs; simp at r5; rw [r5]
  have eu : us = #[] := by cases us; simp at r6; rw [r6]
  subst ev eu rx
  have e' : vals = #[.string s, .func (.func g) #[] #[]] := by cases vals; simp at e; rw [e]
  subst e'
  refine (hC s w (pred_pays p hp hm hgl)).mono ?_
  rintro e w' ⟨rfl, hB⟩
  exact ⟨_, .val _, S, h, rfl, Step.below hB, hm.below hB, by simp [Rep], hk⟩
/-- A byte of no cell. -/
def badI (b : Int) : Bool := decide (b < 32) || decide (126 < b) || decide (b = 94)
def badR (x : Nat) : Bool := badI (x : Int)
theorem idx_from (s : ByteArray) : ∀ (f pos : Nat), s.size ≤ f + pos → (0 ≤ Lib.idxFuncFrom badR true s f pos ↔ ((byts s).drop pos).any badI = true)
  | 0, pos, h => by
    rw [List.drop_eq_nil_of_le (by rw [byts_length]; omega), Lib.idxFuncFrom]
    simp
  | f + 1, pos, h => by
    rw [Lib.idxFuncFrom]
    by_cases hp : pos < s.size
    · rw [if_pos hp]
      have hl : pos < (byts s).length := by rw [byts_length]; exact hp
      have hb : (byts s)[pos] = ((s[pos]'hp).toNat : Int) := by simp [byts]; rfl
      rw [List.drop_eq_getElem_cons hl, List.any_cons, Bool.or_eq_true, hb]
      by_cases ha : (s[pos]'hp).toNat < 128
      · rw [Go.decode_ascii s pos hp ha]
        have ih := idx_from s f (pos + 1) (by omega)
        simp only
        by_cases hq : badR (s[pos]'hp).toNat = true
        · rw [if_pos hq]
          constructor
          · intro _; exact .inl hq
          · intro _; omega
        · rw [if_neg hq, ih]
          constructor
          · intro q; exact .inr q
          · rintro (q | q)
            · exact absurd q hq
            · exact q
      · have hd := (Go.decode_high s pos hp (by omega)).1
        have hq : badR (Utf8.decode s pos).1 = true := by
          simp only [badR, badI, Bool.or_eq_true, decide_eq_true_eq]; omega
        rw [if_pos hq]
        constructor
        · intro _
          refine .inl ?_
          simp only [badI, Bool.or_eq_true, decide_eq_true_eq]; omega
        · intro _; omega
    · rw [if_neg hp, List.drop_eq_nil_of_le (by rw [byts_length]; omega)]
      simp
theorem idx_bytes (s : ByteArray) : decide (0 ≤ Lib.idxFunc badR true s) = (byts s).any badI := by
  rw [Bool.eq_iff_iff, decide_eq_true_eq, Lib.idxFunc, idx_from s s.size 0 (by omega), List.drop_zero]
end Go.AW
