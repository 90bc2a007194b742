/-
  Contracts of functions of this program, over abstract values. Conditions: as each theorem says.
-/
import Derived.Test.YtodgohgdnmifaaaGreatDoorFnS
namespace Go.Proofs.YtodgohgdnmifaaaGreatDoor
open Go.AW
set_option linter.unusedVariables false
set_option linter.unusedSimpArgs false
set_option maxRecDepth 4000

theorem idx_first {α : Type} (p : α → Bool) : ∀ (xs : List α) (k j : Nat) (h : k < xs.length), p xs[k] = true → if (xs.take k).any p then idxFrom p xs j < ((j + k : Nat) : Int) else idxFrom p xs j = ((j + k : Nat) : Int)
  | [], k, j, h, _ => by simp at h
  | x :: xs, 0, j, h, hp => by
    have : p x = true := hp
    simp [idxFrom, this]
  | x :: xs, k + 1, j, h, hp => by
    have ih := idx_first p xs k (j + 1) (by simpa using h) hp
    simp only [List.take_succ_cons, List.any_cons, idxFrom]
    by_cases hx : p x = true
    · simp only [hx, Bool.true_or, if_true]; omega
    · simp only [hx, Bool.false_or, Bool.false_eq_true, if_false]
      have e : j + 1 + k = j + (k + 1) := by omega
      rw [e] at ih; exact ih
def asksS (x : GLocks) : List GAsk → Nat → Bool
  | [], _ => true
  | a :: r, k => (within a.Job 1 4 && within a.Until 0 999999 && thing a.Name a.Subs && decide (askOf x a.Job = (k : Int))) && asksS x r (k + 1)
theorem asksS_at (x : GLocks) (ks : List GAsk) (k : Nat) (h : k < ks.length) : asksS x (ks.drop k) k = ((within ks[k].Job 1 4 && within ks[k].Until 0 999999 && thing ks[k].Name ks[k].Subs && decide (askOf x ks[k].Job = (k : Int))) && asksS x (ks.drop (k + 1)) (k + 1)) := by
  rw [List.drop_eq_getElem_cons h]; rfl
theorem asksS_end (x : GLocks) (ks : List GAsk) (k : Nat) (h : ks.length ≤ k) : asksS x (ks.drop k) k = true := by
  rw [List.drop_eq_nil_of_le h]; rfl
theorem ask_first (x : GLocks) (k : Nat) (h : k < x.Asks.length) : decide (askOf x x.Asks[k].Job = (k : Int)) = !((x.Asks.take k).map GAsk.Job).contains x.Asks[k].Job := by
  have hf := idx_first (fun a : GAsk => decide (a.Job = x.Asks[k].Job)) x.Asks k 0 h (by simp)
  have hc : ((x.Asks.take k).map GAsk.Job).contains x.Asks[k].Job = (x.Asks.take k).any (fun a : GAsk => decide (a.Job = x.Asks[k].Job)) := by
    generalize x.Asks.take k = l
    induction l with
    | nil => rfl
    | cons a l ih =>
      simp only [List.map_cons, List.contains_cons, List.any_cons, ih]
      congr 1
      by_cases q : a.Job = x.Asks[k].Job
      · simp [q]
      · have q' : ¬ x.Asks[k].Job = a.Job := fun e => q e.symm
        simp [q, q']
  rw [hc]
  unfold askOf
  by_cases q : (x.Asks.take k).any (fun a : GAsk => decide (a.Job = x.Asks[k].Job)) = true
  · rw [if_pos q] at hf
    rw [q]; simp only [Bool.not_true, decide_eq_false_iff_not]; omega
  · rw [if_neg q] at hf
    have q' : (x.Asks.take k).any (fun a : GAsk => decide (a.Job = x.Asks[k].Job)) = false := by simpa using q
    rw [q']; simp only [Bool.not_false, decide_eq_true_eq]; omega
theorem asks_same (x : GLocks) : ∀ (n k : Nat), x.Asks.length - k = n → asksGo ((x.Asks.take k).map GAsk.Job) (x.Asks.drop k) = asksS x (x.Asks.drop k) k
  | 0, k, hn => by rw [asksGo_end _ _ (by omega), asksS_end _ _ _ (by omega)]
  | n + 1, k, hn => by
    have hlt : k < x.Asks.length := by omega
    rw [asksGo_at _ k hlt, asksS_at _ _ k hlt, asks_same x n (k + 1) (by omega), ask_first x k hlt]
    cases within x.Asks[k].Job 1 4 <;> cases within x.Asks[k].Until 0 999999 <;> cases thing x.Asks[k].Name x.Asks[k].Subs <;> cases ((x.Asks.take k).map GAsk.Job).contains x.Asks[k].Job <;> rfl
theorem count_le_one : ∀ (l : List Int), l.Nodup → ∀ v, l.count v ≤ 1
  | [], _, v => by simp
  | a :: l, h, v => by
    have h2 := List.nodup_cons.1 h
    have ih := count_le_one l h2.2 v
    rw [List.count_cons]
    by_cases e : a = v
    · subst e
      have : l.count a = 0 := List.count_eq_zero.2 h2.1
      simp [this]
    · simp [e]; exact ih
theorem len_counts : ∀ (l : List Int), (∀ x ∈ l, 1 ≤ x ∧ x ≤ 4) → l.length = l.count 1 + l.count 2 + l.count 3 + l.count 4
  | [], _ => by simp
  | a :: l, h => by
    have ih := len_counts l (fun x hx => h x (by simp [hx]))
    have ha := h a (by simp)
    simp only [List.count_cons, List.length_cons, ih]
    have : a = 1 ∨ a = 2 ∨ a = 3 ∨ a = 4 := by omega
    rcases this with e | e | e | e <;> subst e <;> simp <;> omega
theorem nodup_four (l : List Int) (h1 : l.Nodup) (h2 : ∀ x ∈ l, 1 ≤ x ∧ x ≤ 4) : l.length ≤ 4 := by
  have e := len_counts l h2
  have a1 := count_le_one l h1 1
  have a2 := count_le_one l h1 2
  have a3 := count_le_one l h1 3
  have a4 := count_le_one l h1 4
  omega
theorem asksGo_len : ∀ (r : List GAsk) (pre : List Int), asksGo pre r = true → pre.Nodup → (∀ x ∈ pre, 1 ≤ x ∧ x ≤ 4) → pre.length + r.length ≤ 4
  | [], pre, _, h1, h2 => by simpa using nodup_four pre h1 h2
  | a :: r, pre, h, h1, h2 => by
    simp only [asksGo, Bool.and_eq_true] at h
    obtain ⟨⟨⟨⟨g1, g2⟩, _⟩, _⟩, g3⟩ := h
    have g2' : a.Job ∉ pre := by simpa using g2
    have g1' : 1 ≤ a.Job ∧ a.Job ≤ 4 := by simpa [within] using g1
    have := asksGo_len r (pre ++ [a.Job]) g3 (by
      rw [List.nodup_append]
      refine ⟨h1, by simp, ?_⟩
      intro x hx y hy e
      simp at hy; subst hy e; exact g2' hx) (by
      intro x hx
      rcases List.mem_append.1 hx with q | q
      · exact h2 x q
      · simp at q; subst q; exact g1')
    simp at this ⊢; omega
def locksS (x : GLocks) : Bool := !decide (16 < (x.Held.length : Int)) && !decide (4 < (x.Asks.length : Int)) && heldGo [] x.Held && asksS x x.Asks 0
theorem locks_same (x : GLocks) : locksS x = locksOkB x := by
  have e := asks_same x x.Asks.length 0 (by omega)
  simp only [List.take_zero, List.map_nil, List.drop_zero] at e
  unfold locksS locksOkB heldOkB
  rw [← e]
  by_cases q : asksGo [] x.Asks = true
  · have := asksGo_len x.Asks [] q (by simp) (by simp)
    have h4 : ¬ (4 < (x.Asks.length : Int)) := by simp at this; omega
    simp [q, h4]
  · have q' : asksGo [] x.Asks = false := by simpa using q
    simp [q']
theorem any_drop_take {α : Type} (p : α → Bool) (hs : List α) (k c : Nat) (h : c < k) (hk : k ≤ hs.length) : ((hs.take k).drop c).any p = (p (hs[c]'(by omega)) || ((hs.take k).drop (c + 1)).any p) := by
  rw [List.drop_eq_getElem_cons (by simp; omega)]
  simp
theorem any_drop_end {α : Type} (p : α → Bool) (hs : List α) (k c : Nat) (h : k ≤ c) : ((hs.take k).drop c).any p = false := by
  rw [List.drop_eq_nil_of_le (by simp; omega)]; rfl
def c_spec_l24Ok : LC :=
 .seq (.ops [⟨some 1, none, .box 32 (.tmp 0)⟩, ⟨some 2, none, .mov (.const (.bool false))⟩]) (.seq (.seq (.ops [⟨some 9, none, .fieldAddr 0 (.tmp 1)⟩, ⟨some 10, none, .load none (.tmp 9)⟩, ⟨some 11, none, .lenSl (.tmp
 10)⟩, ⟨some 12, none, .bin .gtr false (.tmp 11) (.const (.int .i64 16))⟩, ⟨some 13, none, .mov (.tmp 12)⟩, ⟨some 14, (some (13, false)), .fieldAddr 1 (.tmp 1)⟩, ⟨some 15, (some (13, false)), .load none (.tmp 14)⟩, ⟨some
 16, (some (13, false)), .lenSl (.tmp 15)⟩, ⟨some 17, (some (13, false)), .bin .gtr false (.tmp 16) (.const (.int .i64 4))⟩, ⟨some 18, none, .pick (.tmp 13) (.const (.bool true)) (.tmp 17)⟩]) (.cond (.tmp 18) (.seq (.ops
 [⟨some 2, none, .mov (.const (.bool false))⟩]) (.ret)) (.skip))) (.seq (.seq (.ops [⟨some 3, none, .mov (.const (.int .i64 0))⟩]) (.block 0 (.loop (.seq (.seq (.ops [⟨some 19, none, .mov (.tmp 3)⟩, ⟨some 20, none,
 .fieldAddr 0 (.tmp 1)⟩, ⟨some 21, none, .load none (.tmp 20)⟩, ⟨some 22, none, .lenSl (.tmp 21)⟩, ⟨some 23, none, .bin .lss false (.tmp 19) (.tmp 22)⟩]) (.cond (.tmp 23) (.skip) (.exit 0))) (.seq (.block 1 (.seq (.ops
 [⟨some 26, none, .fieldAddr 0 (.tmp 1)⟩, ⟨some 27, none, .load none (.tmp 26)⟩, ⟨some 28, none, .mov (.tmp 3)⟩, ⟨some 29, none, .indexAddr 4 (.tmp 27) (.tmp 28)⟩, ⟨some 30, none, .load (some 4) (.tmp 29)⟩, ⟨some 4, none,
 .alloc 74 (.agg #[.int .i64 0, .int .i64 0, .string ⟨#[]⟩, .slice none 0 0])⟩, ⟨none, none, .store 4 (.tmp 4) (.tmp 30)⟩]) (.seq (.seq (.ops [⟨some 31, none, .fieldAddr 0 (.tmp 4)⟩, ⟨some 32, none, .load none (.tmp 31)⟩,
 ⟨some 33, none, .call 52 [.tmp 32]⟩, ⟨some 34, none, .un .not (.tmp 33)⟩, ⟨some 35, none, .mov (.tmp 34)⟩, ⟨some 36, (some (35, false)), .fieldAddr 1 (.tmp 4)⟩, ⟨some 37, (some (35, false)), .load none (.tmp 36)⟩, ⟨some
 38, (some (35, false)), .call 66 [.tmp 37, .const (.int .i64 1), .const (.int .i64 9)]⟩, ⟨some 39, (some (35, false)), .un .not (.tmp 38)⟩, ⟨some 40, none, .pick (.tmp 35) (.const (.bool true)) (.tmp 39)⟩, ⟨some 41, none,
 .mov (.tmp 40)⟩, ⟨some 42, (some (41, false)), .fieldAddr 2 (.tmp 4)⟩, ⟨some 43, (some (41, false)), .load none (.tmp 42)⟩, ⟨some 44, (some (41, false)), .fieldAddr 3 (.tmp 4)⟩, ⟨some 45, (some (41, false)), .load none
 (.tmp 44)⟩, ⟨some 46, (some (41, false)), .call 53 [.tmp 43, .tmp 45]⟩, ⟨some 47, (some (41, false)), .un .not (.tmp 46)⟩, ⟨some 48, none, .pick (.tmp 41) (.const (.bool true)) (.tmp 47)⟩]) (.cond (.tmp 48) (.seq (.ops
 [⟨some 2, none, .mov (.const (.bool false))⟩]) (.ret)) (.skip))) (.seq (.seq (.dops [⟨some 49, none, .mov (.tmp 3)⟩, ⟨some 50, none, .bin .gtr false (.tmp 49) (.const (.int .i64 0))⟩, ⟨some 51, none, .mov (.tmp 50)⟩,
 ⟨some 52, (some (51, true)), .fieldAddr 0 (.tmp 1)⟩, ⟨some 53, (some (51, true)), .load none (.tmp 52)⟩, ⟨some 54, (some (51, true)), .mov (.tmp 3)⟩, ⟨some 55, (some (51, true)), .bin .sub false (.tmp 54) (.const (.int
 .i64 1))⟩, ⟨some 56, (some (51, true)), .indexAddr 4 (.tmp 53) (.tmp 55)⟩, ⟨some 57, (some (51, true)), .fieldAddr 0 (.tmp 56)⟩, ⟨some 58, (some (51, true)), .load none (.tmp 57)⟩, ⟨some 59, (some (51, true)), .fieldAddr
 0 (.tmp 4)⟩, ⟨some 60, (some (51, true)), .load none (.tmp 59)⟩, ⟨some 61, (some (51, true)), .bin .gtr false (.tmp 58) (.tmp 60)⟩, ⟨some 62, (some (51, true)), .mov (.tmp 61)⟩, ⟨some 63, (some (62, false)), .fieldAddr 0
 (.tmp 1)⟩, ⟨some 64, (some (62, false)), .load none (.tmp 63)⟩, ⟨some 65, (some (62, false)), .mov (.tmp 3)⟩, ⟨some 66, (some (62, false)), .bin .sub false (.tmp 65) (.const (.int .i64 1))⟩, ⟨some 67, (some (62, false)),
 .indexAddr 4 (.tmp 64) (.tmp 66)⟩, ⟨some 68, (some (62, false)), .fieldAddr 0 (.tmp 67)⟩, ⟨some 69, (some (62, false)), .load none (.tmp 68)⟩, ⟨some 70, (some (62, false)), .fieldAddr 0 (.tmp 4)⟩, ⟨some 71, (some (62,
 false)), .load none (.tmp 70)⟩, ⟨some 72, (some (62, false)), .bin .eql false (.tmp 69) (.tmp 71)⟩, ⟨some 73, (some (62, false)), .mov (.tmp 72)⟩, ⟨some 74, (some (73, true)), .fieldAddr 0 (.tmp 1)⟩, ⟨some 75, (some (73,
 true)), .load none (.tmp 74)⟩, ⟨some 76, (some (73, true)), .mov (.tmp 3)⟩, ⟨some 77, (some (73, true)), .bin .sub false (.tmp 76) (.const (.int .i64 1))⟩, ⟨some 78, (some (73, true)), .indexAddr 4 (.tmp 75) (.tmp 77)⟩,
 ⟨some 79, (some (73, true)), .fieldAddr 2 (.tmp 78)⟩, ⟨some 80, (some (73, true)), .load none (.tmp 79)⟩, ⟨some 81, (some (73, true)), .fieldAddr 0 (.tmp 1)⟩, ⟨some 82, (some (73, true)), .load none (.tmp 81)⟩, ⟨some 83,
 (some (73, true)), .mov (.tmp 3)⟩, ⟨some 84, (some (73, true)), .bin .sub false (.tmp 83) (.const (.int .i64 1))⟩, ⟨some 85, (some (73, true)), .indexAddr 4 (.tmp 82) (.tmp 84)⟩, ⟨some 86, (some (73, true)), .fieldAddr 3
 (.tmp 85)⟩, ⟨some 87, (some (73, true)), .load none (.tmp 86)⟩, ⟨some 88, (some (73, true)), .fieldAddr 2 (.tmp 4)⟩, ⟨some 89, (some (73, true)), .load none (.tmp 88)⟩, ⟨some 90, (some (73, true)), .fieldAddr 3 (.tmp 4)⟩,
 ⟨some 91, (some (73, true)), .load none (.tmp 90)⟩, ⟨some 92, (some (73, true)), .call 71 [.tmp 80, .tmp 87, .tmp 89, .tmp 91]⟩, ⟨some 93, (some (73, true)), .un .not (.tmp 92)⟩, ⟨some 94, (some (62, false)), .pick (.tmp
 73) (.tmp 93) (.const (.bool false))⟩, ⟨some 95, (some (51, true)), .pick (.tmp 62) (.const (.bool true)) (.tmp 94)⟩, ⟨some 96, none, .pick (.tmp 51) (.tmp 95) (.const (.bool false))⟩]) (.cond (.tmp 96) (.seq (.ops [⟨some
 2, none, .mov (.const (.bool false))⟩]) (.ret)) (.skip))) (.seq (.ops [⟨some 5, none, .mov (.const (.int .i64 0))⟩]) (.block 2 (.loop (.seq (.seq (.ops [⟨some 97, none, .mov (.tmp 5)⟩, ⟨some 98, none, .mov (.tmp 3)⟩,
 ⟨some 99, none, .bin .lss false (.tmp 97) (.tmp 98)⟩]) (.cond (.tmp 99) (.skip) (.exit 2))) (.seq (.block 3 (.seq (.ops [⟨some 102, none, .fieldAddr 0 (.tmp 1)⟩, ⟨some 103, none, .load none (.tmp 102)⟩, ⟨some 104, none,
 .mov (.tmp 5)⟩, ⟨some 105, none, .indexAddr 4 (.tmp 103) (.tmp 104)⟩, ⟨some 106, none, .load (some 4) (.tmp 105)⟩, ⟨some 6, none, .alloc 74 (.agg #[.int .i64 0, .int .i64 0, .string ⟨#[]⟩, .slice none 0 0])⟩, ⟨none, none,
 .store 4 (.tmp 6) (.tmp 106)⟩]) (.seq (.ops [⟨some 107, none, .fieldAddr 0 (.tmp 6)⟩, ⟨some 108, none, .load none (.tmp 107)⟩, ⟨some 109, none, .fieldAddr 0 (.tmp 4)⟩, ⟨some 110, none, .load none (.tmp 109)⟩, ⟨some 111,
 none, .bin .neq false (.tmp 108) (.tmp 110)⟩, ⟨some 112, none, .mov (.tmp 111)⟩, ⟨some 113, (some (112, true)), .fieldAddr 2 (.tmp 6)⟩, ⟨some 114, (some (112, true)), .load none (.tmp 113)⟩, ⟨some 115, (some (112, true)),
 .fieldAddr 3 (.tmp 6)⟩, ⟨some 116, (some (112, true)), .load none (.tmp 115)⟩, ⟨some 117, (some (112, true)), .fieldAddr 2 (.tmp 4)⟩, ⟨some 118, (some (112, true)), .load none (.tmp 117)⟩, ⟨some 119, (some (112, true)),
 .fieldAddr 3 (.tmp 4)⟩, ⟨some 120, (some (112, true)), .load none (.tmp 119)⟩, ⟨some 121, (some (112, true)), .call 72 [.tmp 114, .tmp 116, .tmp 118, .tmp 120]⟩, ⟨some 122, none, .pick (.tmp 112) (.tmp 121) (.const (.bool
 false))⟩]) (.cond (.tmp 122) (.seq (.ops [⟨some 2, none, .mov (.const (.bool false))⟩]) (.ret)) (.skip))))) (.ops [⟨some 100, none, .mov (.tmp 5)⟩, ⟨some 101, none, .bin .add false (.tmp 100) (.const (.int .i64 1))⟩,
 ⟨some 5, none, .mov (.tmp 101)⟩])))))))))) (.ops [⟨some 24, none, .mov (.tmp 3)⟩, ⟨some 25, none, .bin .add false (.tmp 24) (.const (.int .i64 1))⟩, ⟨some 3, none, .mov (.tmp 25)⟩])))))) (.seq (.seq (.ops [⟨some 7, none,
 .mov (.const (.int .i64 0))⟩]) (.block 4 (.loop (.seq (.seq (.ops [⟨some 123, none, .mov (.tmp 7)⟩, ⟨some 124, none, .fieldAddr 1 (.tmp 1)⟩, ⟨some 125, none, .load none (.tmp 124)⟩, ⟨some 126, none, .lenSl (.tmp 125)⟩,
 ⟨some 127, none, .bin .lss false (.tmp 123) (.tmp 126)⟩]) (.cond (.tmp 127) (.skip) (.exit 4))) (.seq (.block 5 (.seq (.ops [⟨some 130, none, .fieldAddr 1 (.tmp 1)⟩, ⟨some 131, none, .load none (.tmp 130)⟩, ⟨some 132,
 none, .mov (.tmp 7)⟩, ⟨some 133, none, .indexAddr 4 (.tmp 131) (.tmp 132)⟩, ⟨some 134, none, .load (some 4) (.tmp 133)⟩, ⟨some 8, none, .alloc 64 (.agg #[.int .i64 0, .int .i64 0, .string ⟨#[]⟩, .slice none 0 0])⟩, ⟨none,
 none, .store 4 (.tmp 8) (.tmp 134)⟩]) (.seq (.ops [⟨some 135, none, .fieldAddr 0 (.tmp 8)⟩, ⟨some 136, none, .load none (.tmp 135)⟩, ⟨some 137, none, .call 52 [.tmp 136]⟩, ⟨some 138, none, .un .not (.tmp 137)⟩, ⟨some 139,
 none, .mov (.tmp 138)⟩, ⟨some 140, (some (139, false)), .fieldAddr 1 (.tmp 8)⟩, ⟨some 141, (some (139, false)), .load none (.tmp 140)⟩, ⟨some 142, (some (139, false)), .call 66 [.tmp 141, .const (.int .i64 0), .const
 (.int .i64 999999)]⟩, ⟨some 143, (some (139, false)), .un .not (.tmp 142)⟩, ⟨some 144, none, .pick (.tmp 139) (.const (.bool true)) (.tmp 143)⟩, ⟨some 145, none, .mov (.tmp 144)⟩, ⟨some 146, (some (145, false)),
 .fieldAddr 2 (.tmp 8)⟩, ⟨some 147, (some (145, false)), .load none (.tmp 146)⟩, ⟨some 148, (some (145, false)), .fieldAddr 3 (.tmp 8)⟩, ⟨some 149, (some (145, false)), .load none (.tmp 148)⟩, ⟨some 150, (some (145,
 false)), .call 53 [.tmp 147, .tmp 149]⟩, ⟨some 151, (some (145, false)), .un .not (.tmp 150)⟩, ⟨some 152, none, .pick (.tmp 145) (.const (.bool true)) (.tmp 151)⟩, ⟨some 153, none, .mov (.tmp 152)⟩, ⟨some 154, (some (153,
 false)), .load (some 2) (.tmp 1)⟩, ⟨some 155, (some (153, false)), .fieldAddr 0 (.tmp 8)⟩, ⟨some 156, (some (153, false)), .load none (.tmp 155)⟩, ⟨some 157, (some (153, false)), .call 73 [.tmp 154, .tmp 156]⟩, ⟨some 158,
 (some (153, false)), .mov (.tmp 7)⟩, ⟨some 159, (some (153, false)), .bin .neq false (.tmp 157) (.tmp 158)⟩, ⟨some 160, none, .pick (.tmp 153) (.const (.bool true)) (.tmp 159)⟩]) (.cond (.tmp 160) (.seq (.ops [⟨some 2,
 none, .mov (.const (.bool false))⟩]) (.ret)) (.skip))))) (.ops [⟨some 128, none, .mov (.tmp 7)⟩, ⟨some 129, none, .bin .add false (.tmp 128) (.const (.int .i64 1))⟩, ⟨some 7, none, .mov (.tmp 129)⟩])))))) (.seq (.ops
 [⟨some 2, none, .mov (.const (.bool true))⟩]) (.ret)))))
def lf_spec_l24Ok : LF := { np := 1, N := 161, body := c_spec_l24Ok, res := [.tmp 2] }
theorem low_spec_l24Ok : LowF Tryz.prog Tryz.f32 lf_spec_l24Ok := LowF.mk' (by kernel_rfl) (by kernel_rfl) (by kernel_rfl) (by decide)

theorem spec_l24Ok_ok (x : GLocks) (hx : GLocks.sz x ≤ 1048576) (h : List Row) : PureCall Tryz.prog 32 [.agg (GLocks.cells x)] h (.val (.bool (locksOkB x))) := by
  rw [← locks_same]
  refine pure_fn mixed Tryz.func32 low_spec_l24Ok rfl rfl ?_ h
  have hlenA := szList_len (GLocks.sz_Asks hx)
  have hlenH := szList_len (GLocks.sz_Held hx)
  have hmA : ∀ a ∈ x.Asks, GAsk.sz a ≤ 1048576 := fun a ha => szList_le (GLocks.sz_Asks hx) ha
  have hmH : ∀ a ∈ x.Held, GLock.sz a ≤ 1048576 := fun a ha => szList_le (GLocks.sz_Held hx) ha
  by_cases h16 : 16 < (x.Held.length : Int)
  · simp (disch := omega) only [lf_spec_l24Ok, c_spec_l24Ok, GLocks.cells, h16, go_sem, Nat.reduceEqDiff, Nat.reduceAdd, Nat.reduceLeDiff, reduceCtorEq, Int.reduceLT, Int.reduceLE, Int.reduceNeg, Int.reduceSub, Int.reduceAdd, Int.reduceToNat, ↓reduceIte]
    exact resolve_bool (by simp [locksS, h16])
  by_cases h4 : 4 < (x.Asks.length : Int)
  · simp (disch := omega) only [lf_spec_l24Ok, c_spec_l24Ok, GLocks.cells, h16, h4, go_sem, Nat.reduceEqDiff, Nat.reduceAdd, Nat.reduceLeDiff, reduceCtorEq, Int.reduceLT, Int.reduceLE, Int.reduceNeg, Int.reduceSub, Int.reduceAdd, Int.reduceToNat, ↓reduceIte]
    exact resolve_bool (by simp [locksS, h4])
  have hS0 : locksS x = (heldGo [] x.Held && asksS x x.Asks 0) := by simp [locksS, h16, h4]
  simp (disch := omega) only [lf_spec_l24Ok, c_spec_l24Ok, GLocks.cells, h16, h4, go_sem, Nat.reduceEqDiff, Nat.reduceAdd, Nat.reduceLeDiff, reduceCtorEq, Int.reduceLT, Int.reduceLE, Int.reduceNeg, Int.reduceSub, Int.reduceAdd, Int.reduceToNat, ↓reduceIte]
  refine Ex_loop (fun n t h => ∃ (k : Nat), t 1 = .ptr 0 1 0 0 ∧ t 3 = .val (.int .i64 k) ∧
    h[0]? = some ⟨32, 2, [[.list 0 4 (x.Held.map GLock.cells), .list 0 4 (x.Asks.map GAsk.cells)]]⟩ ∧ n = x.Held.length - k ∧ k ≤ x.Held.length ∧ heldGo [] x.Held = heldGo (x.Held.take k) (x.Held.drop k)) x.Held.length ?_ ?_
  · exact ⟨0, rfl, rfl, rfl, rfl, Nat.zero_le _, rfl⟩
  · rintro J hJ n t h ⟨k, t1, t3, o0, rfl, hk, hS⟩
    have p0 : ∀ l, (h ++ l)[0]? = some ⟨32, 2, [[.list 0 4 (x.Held.map GLock.cells), .list 0 4 (x.Asks.map GAsk.cells)]]⟩ := fun l => get_old o0
    by_cases hlt : k < x.Held.length
    · rw [heldGo_at x.Held k hlt] at hS
      simp only [lockOk1] at hS
      have hck := hmH _ (List.getElem_mem hlt)
      have hnx : ∀ t', t' 1 = .ptr 0 1 0 0 → t' 3 = .val (.int .i64 (k + 1 : Nat)) → ∀ h' : List Row, h'[0]? = some ⟨32, 2, [[.list 0 4 (x.Held.map GLock.cells), .list 0 4 (x.Asks.map GAsk.cells)]]⟩ → heldGo [] x.Held = heldGo (x.Held.take (k + 1)) (x.Held.drop (k + 1)) → ∃ m, m < x.Held.length - k ∧ J m t' h' :=
        fun t' e1 e3 h' e0 e => ⟨x.Held.length - (k + 1), by omega, hJ _ _ _ ⟨k + 1, e1, e3, e0, rfl, by omega, e⟩⟩
      by_cases hk0 : k = 0
      · have hk0' : ((0 : Int) < (k : Int)) = False := eq_false (by omega)
        have hg : (x.Held.take k).getLast? = none := by rw [hk0]; simp
        have hany : (x.Held.take k).any (clash x.Held[k]) = false := by rw [show x.Held.take k = [] by rw [hk0]; rfl]; rfl
        have hkk : ¬ ((0 : Int) < (k : Int)) := by omega
        rw [hg, ordOk_none] at hS
        clear hk0 hg
        simp (disch := omega) only [t1, t3, hlt, o0, p0, hk0', cellsL, go_sem, Nat.reduceEqDiff, Nat.reduceAdd, Nat.reduceLeDiff, reduceCtorEq, Int.reduceLT, Int.reduceLE, Int.reduceNeg, Int.reduceSub, Int.reduceAdd, Int.reduceToNat, ↓reduceIte]
        repeat' (first
          | exact resolve_val _ _
          | (refine resolve_bool ?_; rw [hS0, hS]; simp only [*, Bool.and_true, Bool.true_and, Bool.and_false, Bool.false_and, Bool.or_true, Bool.true_or, Bool.or_false, Bool.false_or, Bool.not_true, Bool.not_false, decide_true, decide_false, Bool.and_self, Bool.or_self]; done)
          | (
            refine Ex_loop (fun m t h => t 1 = .ptr 0 1 0 0 ∧ t 3 = .val (.int .i64 k) ∧ t 5 = .val (.int .i64 0) ∧ h[0]? = some ⟨32, 2, [[.list 0 4 (x.Held.map GLock.cells), .list 0 4 (x.Asks.map GAsk.cells)]]⟩) 0 ⟨by simp [upd, t1], by simp [upd, t3], by simp [upd], p0 _⟩ ?_
            rintro J2 hJ2 m t h ⟨t1, t3, t5, o0⟩
            simp (disch := omega) only [t1, t3, t5, hk0', o0, go_sem, Nat.reduceEqDiff, Nat.reduceAdd, Nat.reduceLeDiff, reduceCtorEq, Int.reduceLT, Int.reduceLE, Int.reduceNeg, Int.reduceSub, Int.reduceAdd, Int.reduceToNat, ↓reduceIte]
            refine hnx _ (by simp [upd, t1]) (by simp [upd, t3]) _ o0 ?_
            rw [hS]; simp only [*, Bool.and_true, Bool.true_and, Bool.and_false, Bool.false_and, Bool.or_true, Bool.true_or, Bool.or_false, Bool.false_or, Bool.not_true, Bool.not_false, decide_true, decide_false, Bool.and_self, Bool.or_self])
          | simp (disch := omega) only [t1, t3, p0, hk0', go_sem, Nat.reduceEqDiff, Nat.reduceAdd, Nat.reduceLeDiff, reduceCtorEq, Int.reduceLT, Int.reduceLE, Int.reduceNeg, Int.reduceSub, Int.reduceAdd, Int.reduceToNat, ↓reduceIte]
          | (refine PureCall.call (spec_l24Job_ok _ _) ?_)
          | (refine PureCall.q (spec_l24Job_ok _ _) ?_)
          | (refine PureCall.call (spec_l00In_ok _ _ _ _) ?_)
          | (refine PureCall.q (spec_l00In_ok _ _ _ _) ?_)
          | (refine PureCall.call (spec_l24Thing_ok _ _ (GLock.sz_Name hck) (szList_len (GLock.sz_Subs hck)) _) ?_)
          | (refine PureCall.q (spec_l24Thing_ok _ _ (GLock.sz_Name hck) (szList_len (GLock.sz_Subs hck)) _) ?_)
          | (first | (apply ExG_NT; assumption; intro hb; try simp only [hb]) | (apply ExG_NF; assumption; intro hb; try simp only [hb]) | (apply ExG_T; assumption; intro hb; try simp only [hb]) | (apply ExG_F; assumption; intro hb; try simp only [hb]))
          | (first | (apply ExC_NT; assumption; intro hb; try simp only [hb]) | (apply ExC_NF; assumption; intro hb; try simp only [hb]) | (apply ExC_T; assumption; intro hb; try simp only [hb]) | (apply ExC_F; assumption; intro hb; try simp only [hb]))
          | (first | (apply ExH_NT; assumption; intro hb; try simp only [hb]) | (apply ExH_NF; assumption; intro hb; try simp only [hb]) | (apply ExH_T; assumption; intro hb; try simp only [hb]) | (apply ExH_F; assumption; intro hb; try simp only [hb]))
          | ((first | refine ExG_splitN (fun hb => ?_) (fun hb => ?_) | refine ExG_split (fun hb => ?_) (fun hb => ?_) | refine ExC_splitN (fun hb => ?_) (fun hb => ?_) | refine ExC_split (fun hb => ?_) (fun hb => ?_) | refine ExH_splitN (fun hb => ?_) (fun hb => ?_) | refine ExH_split (fun hb => ?_) (fun hb => ?_)) <;> (try simp only [hb]) <;> (first | have hp : _ < _ := of_decide_eq_true hb | have hp : _ ≤ _ := of_decide_eq_true hb | have hp : ¬ (_ < _) := of_decide_eq_false hb | have hp : ¬ (_ ≤ _) := of_decide_eq_false hb | skip)))
      · have hk0' : ((0 : Int) < (k : Int)) = True := eq_true (by omega)
        have hkp : ((k : Int) - 1) = ((k - 1 : Nat) : Int) := by omega
        have hkl : k - 1 < x.Held.length := by omega
        rw [last_succ x.Held k hlt (by omega), ordOk_some] at hS
        have hord' : (!lockLt x.Held[k - 1] x.Held[k]) = (decide (x.Held[k - 1].Job > x.Held[k].Job) || ((x.Held[k - 1].Job == x.Held[k].Job) && !lessP x.Held[k - 1].Name.data.toList (bss x.Held[k - 1].Subs) x.Held[k].Name.data.toList (bss x.Held[k].Subs))) := lockLt_spec x.Held[k - 1] x.Held[k]
        generalize lockLt x.Held[k - 1] x.Held[k] = ord at hS hord'
        simp (disch := omega) only [t1, t3, hlt, o0, p0, hk0', hkp, cellsL, go_sem, Nat.reduceEqDiff, Nat.reduceAdd, Nat.reduceLeDiff, reduceCtorEq, Int.reduceLT, Int.reduceLE, Int.reduceNeg, Int.reduceSub, Int.reduceAdd, Int.reduceToNat, ↓reduceIte]
        repeat' (first
          | exact resolve_val _ _
          | (refine resolve_bool ?_; rw [hS0, hS]; simp only [*, Bool.and_true, Bool.true_and, Bool.and_false, Bool.false_and, Bool.or_true, Bool.true_or, Bool.or_false, Bool.false_or, Bool.not_true, Bool.not_false, decide_true, decide_false, Bool.and_self, Bool.or_self]; done)
          | (
            refine resolve_bool ?_
            rw [hS0, hS]
            have hord2 : ord = false := by
              cases ord
              · rfl
              · exfalso; revert hord'; simp only [*, Bool.not_true]; simp
            rw [hord2]
            simp only [*, Bool.and_true, Bool.true_and, Bool.and_false, Bool.false_and, Bool.or_true, Bool.true_or, Bool.or_false, Bool.false_or, Bool.not_true, Bool.not_false, decide_true, decide_false, Bool.and_self, Bool.or_self]
            done)
          | (
            have hord2 : ord = true := by
              cases ord
              · exfalso; revert hord'; simp only [*, Bool.not_false]; simp
              · rfl
            refine Ex_loop (fun m t h' => ∃ c : Nat, t 1 = .ptr 0 1 0 0 ∧ t 3 = .val (.int .i64 k) ∧ t 4 = .ptr h.length 1 0 0 ∧ t 5 = .val (.int .i64 c) ∧ h'[0]? = some ⟨32, 2, [[.list 0 4 (x.Held.map GLock.cells), .list 0 4 (x.Asks.map GAsk.cells)]]⟩ ∧ h'[h.length]? = some ⟨74, 4, [GLock.cells x.Held[k]]⟩ ∧ m = k - c ∧ c ≤ k ∧ (x.Held.take k).any (clash x.Held[k]) = ((x.Held.take k).drop c).any (clash x.Held[k])) k ⟨0, by simp [upd, t1], by simp [upd, t3], by simp [upd], by simp [upd], p0 _, by rw [getA0]; rfl, by omega, by omega, by simp⟩ ?_
            rintro J2 hJ2 m t h' ⟨c, t1, t3, t4, t5, o0, oL, rfl, hc, hA⟩
            have q0 : ∀ l, (h' ++ l)[0]? = some ⟨32, 2, [[.list 0 4 (x.Held.map GLock.cells), .list 0 4 (x.Asks.map GAsk.cells)]]⟩ := fun l => get_old o0
            have qL : ∀ l, (h' ++ l)[h.length]? = some ⟨74, 4, [GLock.cells x.Held[k]]⟩ := fun l => get_old oL
            simp only [cellsL] at oL qL
            by_cases hck2 : c < k
            · have hcl : c < x.Held.length := by omega
              rw [any_drop_take _ _ _ _ hck2 (by omega)] at hA
              have hw := starts_self_comm x.Held[c].Name x.Held[c].Subs x.Held[k].Name x.Held[k].Subs
              have hcx := hmH _ (List.getElem_mem hcl)
              by_cases hj : x.Held[c].Job = x.Held[k].Job
              · have hj' : (x.Held[c].Job = x.Held[k].Job) = True := eq_true hj
                simp (disch := omega) only [t1, t3, t4, t5, hck2, o0, q0, qL, cellsL, hj', go_sem, Nat.reduceEqDiff, Nat.reduceAdd, Nat.reduceLeDiff, reduceCtorEq, Int.reduceLT, Int.reduceLE, Int.reduceNeg, Int.reduceSub, Int.reduceAdd, Int.reduceToNat, ↓reduceIte]
                exact ⟨k - (c + 1), by omega, hJ2 _ _ _ ⟨c + 1, by simp [upd, t1], by simp [upd, t3], by simp [upd, t4], by simp [upd], q0 _, by simp only [cellsL]; exact qL _, rfl, by omega, by rw [hA]; simp [clash, hj]⟩⟩
              · have hj' : (x.Held[c].Job = x.Held[k].Job) = False := eq_false hj
                simp (disch := omega) only [t1, t3, t4, t5, hck2, o0, q0, qL, cellsL, hj', go_sem, Nat.reduceEqDiff, Nat.reduceAdd, Nat.reduceLeDiff, reduceCtorEq, Int.reduceLT, Int.reduceLE, Int.reduceNeg, Int.reduceSub, Int.reduceAdd, Int.reduceToNat, ↓reduceIte]
                refine PureCall.call (spec_l24Way_ok _ _ _ _ (szList_len (GLock.sz_Subs hcx)) (szList_len (GLock.sz_Subs hck)) _) ?_
                rw [hw]
                by_cases hww : way x.Held[k].Name x.Held[k].Subs x.Held[c].Name x.Held[c].Subs = true
                · simp (disch := omega) only [t1, t3, t4, t5, hww, go_sem, Nat.reduceEqDiff, Nat.reduceAdd, Nat.reduceLeDiff, reduceCtorEq, Int.reduceLT, Int.reduceLE, Int.reduceNeg, Int.reduceSub, Int.reduceAdd, Int.reduceToNat, ↓reduceIte]
                  exact resolve_bool (by rw [hS0, hS, hA]; simp [clash, hj, hww])
                · have hww' : way x.Held[k].Name x.Held[k].Subs x.Held[c].Name x.Held[c].Subs = false := by simpa using hww
                  simp (disch := omega) only [t1, t3, t4, t5, hww', go_sem, Nat.reduceEqDiff, Nat.reduceAdd, Nat.reduceLeDiff, reduceCtorEq, Int.reduceLT, Int.reduceLE, Int.reduceNeg, Int.reduceSub, Int.reduceAdd, Int.reduceToNat, ↓reduceIte]
                  exact ⟨k - (c + 1), by omega, hJ2 _ _ _ ⟨c + 1, by simp [upd, t1], by simp [upd, t3], by simp [upd, t4], by simp [upd], q0 _, by simp only [cellsL]; exact qL _, rfl, by omega, by rw [hA]; simp [clash, hj, hww']⟩⟩
            · rw [any_drop_end _ _ _ _ (by omega)] at hA
              simp (disch := omega) only [t1, t3, t4, t5, hck2, o0, go_sem, Nat.reduceEqDiff, Nat.reduceAdd, Nat.reduceLeDiff, reduceCtorEq, Int.reduceLT, Int.reduceLE, Int.reduceNeg, Int.reduceSub, Int.reduceAdd, Int.reduceToNat, ↓reduceIte]
              refine hnx _ (by simp [upd, t1]) (by simp [upd, t3]) _ o0 ?_
              rw [hS, hord2, hA]; simp only [*, Bool.and_true, Bool.true_and, Bool.and_false, Bool.false_and, Bool.or_true, Bool.true_or, Bool.or_false, Bool.false_or, Bool.not_true, Bool.not_false, decide_true, decide_false, Bool.and_self, Bool.or_self])
          | simp (disch := omega) only [t1, t3, p0, hk0', hkp, go_sem, Nat.reduceEqDiff, Nat.reduceAdd, Nat.reduceLeDiff, reduceCtorEq, Int.reduceLT, Int.reduceLE, Int.reduceNeg, Int.reduceSub, Int.reduceAdd, Int.reduceToNat, ↓reduceIte]
          | (refine PureCall.call (spec_l24Job_ok _ _) ?_)
          | (refine PureCall.q (spec_l24Job_ok _ _) ?_)
          | (refine PureCall.call (spec_l00In_ok _ _ _ _) ?_)
          | (refine PureCall.q (spec_l00In_ok _ _ _ _) ?_)
          | (refine PureCall.call (spec_l24Thing_ok _ _ (GLock.sz_Name hck) (szList_len (GLock.sz_Subs hck)) _) ?_)
          | (refine PureCall.q (spec_l24Thing_ok _ _ (GLock.sz_Name hck) (szList_len (GLock.sz_Subs hck)) _) ?_)
          | (refine PureCall.call (spec_l24Less_ok _ _ _ _ (GLock.sz_Subs (hmH _ (List.getElem_mem hkl))) (GLock.sz_Subs hck) _) ?_)
          | (refine PureCall.q (spec_l24Less_ok _ _ _ _ (GLock.sz_Subs (hmH _ (List.getElem_mem hkl))) (GLock.sz_Subs hck) _) ?_)
          | (first | (apply ExG_NT; assumption; intro hb; try simp only [hb]) | (apply ExG_NF; assumption; intro hb; try simp only [hb]) | (apply ExG_T; assumption; intro hb; try simp only [hb]) | (apply ExG_F; assumption; intro hb; try simp only [hb]))
          | (first | (apply ExC_NT; assumption; intro hb; try simp only [hb]) | (apply ExC_NF; assumption; intro hb; try simp only [hb]) | (apply ExC_T; assumption; intro hb; try simp only [hb]) | (apply ExC_F; assumption; intro hb; try simp only [hb]))
          | (first | (apply ExH_NT; assumption; intro hb; try simp only [hb]) | (apply ExH_NF; assumption; intro hb; try simp only [hb]) | (apply ExH_T; assumption; intro hb; try simp only [hb]) | (apply ExH_F; assumption; intro hb; try simp only [hb]))
          | ((first | refine ExG_splitN (fun hb => ?_) (fun hb => ?_) | refine ExG_split (fun hb => ?_) (fun hb => ?_) | refine ExC_splitN (fun hb => ?_) (fun hb => ?_) | refine ExC_split (fun hb => ?_) (fun hb => ?_) | refine ExH_splitN (fun hb => ?_) (fun hb => ?_) | refine ExH_split (fun hb => ?_) (fun hb => ?_)) <;> (try simp only [hb]) <;> (first | have hp : _ < _ := of_decide_eq_true hb | have hp : _ ≤ _ := of_decide_eq_true hb | have hp : ¬ (_ < _) := of_decide_eq_false hb | have hp : ¬ (_ ≤ _) := of_decide_eq_false hb | skip)))
    · rw [heldGo_end _ _ (by omega)] at hS
      have hS1 : locksS x = asksS x x.Asks 0 := by rw [hS0, hS, Bool.true_and]
      simp (disch := omega) only [t1, t3, hlt, o0, go_sem, Nat.reduceEqDiff, Nat.reduceAdd, Nat.reduceLeDiff, reduceCtorEq, Int.reduceLT, Int.reduceLE, Int.reduceNeg, Int.reduceSub, Int.reduceAdd, Int.reduceToNat, ↓reduceIte]
      refine Ex_loop (fun n t h => ∃ (k : Nat), t 1 = .ptr 0 1 0 0 ∧ t 7 = .val (.int .i64 k) ∧
        h[0]? = some ⟨32, 2, [[.list 0 4 (x.Held.map GLock.cells), .list 0 4 (x.Asks.map GAsk.cells)]]⟩ ∧ n = x.Asks.length - k ∧ k ≤ x.Asks.length ∧ asksS x x.Asks 0 = asksS x (x.Asks.drop k) k) x.Asks.length ⟨0, by simp [upd, t1], by simp [upd], o0, rfl, Nat.zero_le _, rfl⟩ ?_
      rintro J2 hJ2 n t h ⟨k, t1, t7, o0, rfl, hk, hT⟩
      have p0 : ∀ l, (h ++ l)[0]? = some ⟨32, 2, [[.list 0 4 (x.Held.map GLock.cells), .list 0 4 (x.Asks.map GAsk.cells)]]⟩ := fun l => get_old o0
      by_cases hlt : k < x.Asks.length
      · rw [asksS_at _ _ _ hlt] at hT
        have hck := hmA _ (List.getElem_mem hlt)
        have hcall : ∀ (j : Int) (H : List Row), PureCall Tryz.prog 73 [.agg [.list 0 4 (x.Held.map GLock.cells), .list 0 4 (x.Asks.map GAsk.cells)], .val (.int .i64 j)] H (.val (.int .i64 (askOf x j))) := fun j H => spec_l24Ask_ok x j hlenA H
        simp (disch := omega) only [t1, t7, hlt, o0, p0, cellsA, go_sem, Nat.reduceEqDiff, Nat.reduceAdd, Nat.reduceLeDiff, reduceCtorEq, Int.reduceLT, Int.reduceLE, Int.reduceNeg, Int.reduceSub, Int.reduceAdd, Int.reduceToNat, ↓reduceIte]
        repeat' (first
          | exact resolve_val _ _
          | (refine resolve_bool ?_; rw [hS1, hT]; simp only [*, Bool.and_true, Bool.true_and, Bool.and_false, Bool.false_and, Bool.or_true, Bool.true_or, Bool.or_false, Bool.false_or, Bool.not_true, Bool.not_false, decide_true, decide_false, Bool.and_self, Bool.or_self]; done)
          | (exact ⟨x.Asks.length - (k + 1), by omega, hJ2 _ _ _ ⟨k + 1, by simp [upd, t1], by simp [upd], p0 _, rfl, by omega, by rw [hT]; simp only [*, Bool.and_true, Bool.true_and, Bool.and_false, Bool.false_and, Bool.or_true, Bool.true_or, Bool.or_false, Bool.false_or, Bool.not_true, Bool.not_false, decide_true, decide_false, Bool.and_self, Bool.or_self]⟩⟩)
          | simp (disch := omega) only [t1, t7, p0, go_sem, Nat.reduceEqDiff, Nat.reduceAdd, Nat.reduceLeDiff, reduceCtorEq, Int.reduceLT, Int.reduceLE, Int.reduceNeg, Int.reduceSub, Int.reduceAdd, Int.reduceToNat, ↓reduceIte]
          | (refine PureCall.call (spec_l24Job_ok _ _) ?_)
          | (refine PureCall.q (spec_l24Job_ok _ _) ?_)
          | (refine PureCall.call (spec_l00In_ok _ _ _ _) ?_)
          | (refine PureCall.q (spec_l00In_ok _ _ _ _) ?_)
          | (refine PureCall.call (spec_l24Thing_ok _ _ (GAsk.sz_Name hck) (szList_len (GAsk.sz_Subs hck)) _) ?_)
          | (refine PureCall.q (spec_l24Thing_ok _ _ (GAsk.sz_Name hck) (szList_len (GAsk.sz_Subs hck)) _) ?_)
          | (refine PureCall.call (hcall _ _) ?_)
          | (refine PureCall.q (hcall _ _) ?_)
          | (first | (apply ExG_NT; assumption; intro hb; try simp only [hb]) | (apply ExG_NF; assumption; intro hb; try simp only [hb]) | (apply ExG_T; assumption; intro hb; try simp only [hb]) | (apply ExG_F; assumption; intro hb; try simp only [hb]))
          | (first | (apply ExC_NT; assumption; intro hb; try simp only [hb]) | (apply ExC_NF; assumption; intro hb; try simp only [hb]) | (apply ExC_T; assumption; intro hb; try simp only [hb]) | (apply ExC_F; assumption; intro hb; try simp only [hb]))
          | (first | (apply ExH_NT; assumption; intro hb; try simp only [hb]) | (apply ExH_NF; assumption; intro hb; try simp only [hb]) | (apply ExH_T; assumption; intro hb; try simp only [hb]) | (apply ExH_F; assumption; intro hb; try simp only [hb]))
          | ((first | refine ExG_splitN (fun hb => ?_) (fun hb => ?_) | refine ExG_split (fun hb => ?_) (fun hb => ?_) | refine ExC_splitN (fun hb => ?_) (fun hb => ?_) | refine ExC_split (fun hb => ?_) (fun hb => ?_) | refine ExH_splitN (fun hb => ?_) (fun hb => ?_) | refine ExH_split (fun hb => ?_) (fun hb => ?_)) <;> (try simp only [hb]) <;> (first | have hp : _ < _ := of_decide_eq_true hb | have hp : _ ≤ _ := of_decide_eq_true hb | have hp : ¬ (_ < _) := of_decide_eq_false hb | have hp : ¬ (_ ≤ _) := of_decide_eq_false hb | skip)))
      · simp (disch := omega) only [t1, t7, hlt, o0, go_sem, Nat.reduceEqDiff, Nat.reduceAdd, Nat.reduceLeDiff, reduceCtorEq, Int.reduceLT, Int.reduceLE, Int.reduceNeg, Int.reduceSub, Int.reduceAdd, Int.reduceToNat, ↓reduceIte]
        exact resolve_bool (by rw [hS1, hT, asksS_end _ _ _ (by omega)])

end Go.Proofs.YtodgohgdnmifaaaGreatDoor
