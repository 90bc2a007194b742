/-
  Contracts of functions of this program, over abstract values. Conditions: as each theorem says.
-/
import Derived.Test.YtkddmakjmjmokaaGreatDoorFnN
namespace Go.Proofs.YtkddmakjmjmokaaGreatDoor
open Go.AW
set_option linter.unusedVariables false
set_option linter.unusedSimpArgs false
set_option maxRecDepth 4000

def c_spec_l01Whole : LC :=
 .seq (.ops [⟨some 2, none, .mov (.const (.string ⟨#[]⟩))⟩]) (.seq (.seq (.ops [⟨some 3, none, .mov (.tmp 0)⟩, ⟨some 4, none, .bin .eql false (.tmp 3) (.const (.int .i64 0))⟩]) (.cond (.tmp 4) (.seq (.ops [⟨some 2, none,
 .mov (.const (.string ⟨#[]⟩))⟩]) (.ret)) (.skip))) (.seq (.dops [⟨some 5, none, .mov (.tmp 0)⟩, ⟨some 6, none, .bin .quo false (.tmp 5) (.const (.int .i64 10))⟩, ⟨some 7, none, .call 128 [.tmp 6]⟩, ⟨some 8, none, .mov
 (.tmp 0)⟩, ⟨some 9, none, .bin .rem false (.tmp 8) (.const (.int .i64 10))⟩, ⟨some 10, none, .bin .add false (.const (.int .i64 48)) (.tmp 9)⟩, ⟨some 11, none, .convInt .u8 (.tmp 10)⟩, ⟨some 12, none, .buildImm 5 1 (.int
 .u8 0) 1 [(0, .tmp 11)]⟩, ⟨some 13, none, .toStr (.tmp 12)⟩, ⟨some 14, none, .bin .add false (.tmp 7) (.tmp 13)⟩, ⟨some 2, none, .mov (.tmp 14)⟩]) (.ret)))
def lf_spec_l01Whole : LF := { np := 1, N := 15, body := c_spec_l01Whole, res := [.tmp 2] }
theorem low_spec_l01Whole : LowF Tryz.prog Tryz.f128 lf_spec_l01Whole := LowF.mk' (by kernel_rfl) (by kernel_rfl) (by kernel_rfl) (by decide)

theorem wholeD_step (u : Nat) (h : u ≠ 0) : wholeD u = wholeD (u / 10) ++ [UInt8.ofNat (48 + u % 10)] := by
  unfold wholeD
  rw [if_neg h, Lib.decDigits]
  by_cases q : u < 10
  · rw [dif_pos q, if_pos (by omega)]
    have : u % 10 = u := by omega
    rw [this]; rfl
  · rw [dif_neg q, if_neg (by omega)]
theorem wholeD_len (u : Nat) (h : u ≤ 999999999999999999) : (wholeD u).length ≤ 20 := by
  unfold wholeD; split
  · simp
  · exact (decDigits_len u h).1
theorem spec_l01Whole_ok (u : Nat) : u ≤ 999999999999999999 → ∀ h : List Row, PureCall Tryz.prog 128 [.val (.int .i64 u)] h (.val (.string (txt (wholeD u)))) := by
  induction u using Nat.strongRecOn with
  | _ u ih =>
  intro hu h
  refine pure_fn mixed Tryz.func128 low_spec_l01Whole rfl rfl ?_ h
  by_cases h0 : u = 0
  · subst h0
    simp (disch := (try simp only [List.length_append, List.length_cons, List.length_nil]); omega) only [lf_spec_l01Whole, c_spec_l01Whole, go_sem, reduceCtorEq, ↓reduceIte]
    exact resolve_str rfl
  · have h0' : ((u : Int) = 0) = False := by first | (simp; done) | (simp; omega)
    have e2 : ((u : Int) / 10) = ((u / 10 : Nat) : Int) := by omega
    have hl := wholeD_len (u / 10) (by omega)
    have e5 : UInt8.ofNat (48 + (u : Int) % 10).toNat = UInt8.ofNat (48 + u % 10) := by first | (congr 1; done) | (congr 1; omega)
    simp (disch := (try simp only [List.length_append, List.length_cons, List.length_nil]); omega) only [lf_spec_l01Whole, c_spec_l01Whole, h0', e2, go_sem, Nat.reduceEqDiff, reduceCtorEq, ↓reduceIte]
    refine PureCall.q (ih (u / 10) (by omega) (by omega) _) ?_
    simp (disch := (try simp only [List.length_append, List.length_cons, List.length_nil]); omega) only [e5, go_sem]
    exact resolve_str (by rw [wholeD_step u h0])

def c_spec_l01Text : LC :=
 .seq (.ops [⟨some 2, none, .mov (.const (.string ⟨#[]⟩))⟩]) (.seq (.seq (.ops [⟨some 6, none, .mov (.tmp 0)⟩, ⟨some 7, none, .bin .lss false (.tmp 6) (.const (.int .i64 0))⟩]) (.cond (.tmp 7) (.seq (.ops [⟨some 8, none,
 .mov (.tmp 0)⟩, ⟨some 9, none, .un .neg (.tmp 8)⟩, ⟨some 10, none, .call 110 [.tmp 9]⟩, ⟨some 11, none, .bin .add false (.const (.string ⟨#[45]⟩)) (.tmp 10)⟩, ⟨some 2, none, .mov (.tmp 11)⟩]) (.ret)) (.skip))) (.seq (.ops
 [⟨some 12, none, .mov (.tmp 0)⟩, ⟨some 13, none, .bin .quo false (.tmp 12) (.const (.int .i64 1000000))⟩, ⟨some 14, none, .call 128 [.tmp 13]⟩, ⟨some 3, none, .mov (.tmp 14)⟩]) (.seq (.ops [⟨some 15, none, .mov (.tmp 0)⟩,
 ⟨some 16, none, .bin .rem false (.tmp 15) (.const (.int .i64 1000000))⟩, ⟨some 4, none, .mov (.tmp 16)⟩]) (.seq (.seq (.ops [⟨some 17, none, .mov (.tmp 4)⟩, ⟨some 18, none, .bin .gtr false (.tmp 17) (.const (.int .i64
 0))⟩]) (.cond (.tmp 18) (.seq (.ops [⟨some 19, none, .mov (.tmp 4)⟩, ⟨some 20, none, .bin .add false (.const (.int .i64 1000000)) (.tmp 19)⟩, ⟨some 21, none, .call 128 [.tmp 20]⟩, ⟨some 22, none, .sliceStr (.tmp 21) (some
 (.const (.int .i64 1))) none⟩, ⟨some 5, none, .mov (.tmp 22)⟩]) (.seq (.block 0 (.loop (.seq (.seq (.ops [⟨some 23, none, .mov (.tmp 5)⟩, ⟨some 24, none, .mov (.tmp 5)⟩, ⟨some 25, none, .lenStr (.tmp 24)⟩, ⟨some 26, none,
 .bin .sub false (.tmp 25) (.const (.int .i64 1))⟩, ⟨some 27, none, .indexStr (.tmp 23) (.tmp 26)⟩, ⟨some 28, none, .bin .eql false (.tmp 27) (.const (.int .u8 48))⟩]) (.cond (.tmp 28) (.skip) (.exit 0))) (.block 1 (.ops
 [⟨some 29, none, .mov (.tmp 5)⟩, ⟨some 30, none, .mov (.tmp 5)⟩, ⟨some 31, none, .lenStr (.tmp 30)⟩, ⟨some 32, none, .bin .sub false (.tmp 31) (.const (.int .i64 1))⟩, ⟨some 33, none, .sliceStr (.tmp 29) none (some (.tmp
 32))⟩, ⟨some 5, none, .mov (.tmp 33)⟩]))))) (.ops [⟨some 34, none, .mov (.tmp 3)⟩, ⟨some 35, none, .mov (.tmp 5)⟩, ⟨some 36, none, .bin .add false (.const (.string ⟨#[46]⟩)) (.tmp 35)⟩, ⟨some 37, none, .bin .add false
 (.tmp 34) (.tmp 36)⟩, ⟨some 3, none, .mov (.tmp 37)⟩]))) (.skip))) (.seq (.seq (.ops [⟨some 38, none, .mov (.tmp 3)⟩, ⟨some 39, none, .bin .eql false (.tmp 38) (.const (.string ⟨#[]⟩))⟩]) (.cond (.tmp 39) (.seq (.ops
 [⟨some 2, none, .mov (.const (.string ⟨#[48]⟩))⟩]) (.ret)) (.skip))) (.seq (.ops [⟨some 40, none, .mov (.tmp 3)⟩, ⟨some 2, none, .mov (.tmp 40)⟩]) (.ret)))))))
def lf_spec_l01Text : LF := { np := 1, N := 41, body := c_spec_l01Text, res := [.tmp 2] }
theorem low_spec_l01Text : LowF Tryz.prog Tryz.f110 lf_spec_l01Text := LowF.mk' (by kernel_rfl) (by kernel_rfl) (by kernel_rfl) (by decide)

theorem trim0_last (f : List UInt8) (h : f ≠ []) : trim0 f = if f.getLast h = 48 then trim0 f.dropLast else f := by
  have e : f = f.dropLast ++ [f.getLast h] := (List.dropLast_concat_getLast h).symm
  unfold trim0
  by_cases q : f.getLast h = 48
  · rw [if_pos q]
    conv => lhs; rw [e]
    rw [List.reverse_append, List.reverse_singleton, List.singleton_append, List.dropWhile_cons, q]
    rfl
  · rw [if_neg q]
    conv => lhs; rw [e]
    rw [List.reverse_append, List.reverse_singleton, List.singleton_append, List.dropWhile_cons]
    have : (f.getLast h == 48) = false := by simpa using q
    rw [this]
    simp only [Bool.false_eq_true, if_false, List.reverse_cons, List.reverse_reverse]
    exact e.symm
theorem spec_l01Text_pos (u : Nat) (hu : u ≤ 999999999999999999) (h : List Row) : PureCall Tryz.prog 110 [.val (.int .i64 u)] h (.val (.string (txt (textAbs u)))) := by
  refine pure_fn mixed Tryz.func110 low_spec_l01Text rfl rfl ?_ h
  have hs : ((u : Int) < 0) = False := by first | (simp; done) | (simp; omega)
  have e2 : ((u : Int) / 1000000) = ((u / 1000000 : Nat) : Int) := by omega
  have e3 : ((u : Int) % 1000000) = ((u % 1000000 : Nat) : Int) := by omega
  have e4 : ((1000000 : Int) + ((u % 1000000 : Nat) : Int)) = ((1000000 + u % 1000000 : Nat) : Int) := by omega
  have hw1 := wholeD_len (u / 1000000) (by omega)
  simp (disch := (try simp only [List.length_append, List.length_cons, List.length_nil]); omega) only [lf_spec_l01Text, c_spec_l01Text, hs, e2, go_sem, reduceCtorEq, ↓reduceIte]
  refine PureCall.call (spec_l01Whole_ok (u / 1000000) (by omega) _) ?_
  by_cases q2 : 0 < u % 1000000
  · have hq2 : ((0 : Int) < ((u % 1000000 : Nat) : Int)) = True := by first | (simp; done) | (simp; omega)
    have hd2 := decDigits_len (1000000 + u % 1000000) (by omega)
    simp (disch := (try simp only [List.length_append, List.length_cons, List.length_nil]); omega) only [hq2, e3, e4, go_sem, Nat.reduceEqDiff, reduceCtorEq, ↓reduceIte]
    refine PureCall.call (spec_l01Whole_ok (1000000 + u % 1000000) (by omega) _) ?_
    have hwd : wholeD (1000000 + u % 1000000) = Lib.decDigits (1000000 + u % 1000000) := by unfold wholeD; rw [if_neg (by omega)]
    rw [hwd]
    simp (disch := (try simp only [List.length_append, List.length_cons, List.length_nil]); omega) only [List.take_length, go_sem, Int.reduceLE, Int.reduceToNat, ↓reduceIte]
    obtain ⟨b0, hb0, hb48⟩ := frac_last (r := u % 1000000) (by omega) (by omega)
    refine Ex_loop (fun m t h => ∃ f : List UInt8, t 5 = .val (.string (txt f)) ∧ t 3 = .val (.string (txt (wholeD (u / 1000000)))) ∧ m = f.length ∧ f.length ≤ 20 ∧ (∃ b ∈ f, b ≠ 48) ∧ trim0 ((Lib.decDigits (1000000 + u % 1000000)).drop 1) = trim0 f) _ ⟨_, rfl, rfl, rfl, ?_, ⟨b0, hb0, hb48⟩, rfl⟩ ?_
    · rw [List.length_drop]; omega
    · rintro J hJ m t h ⟨f, t5, t3, rfl, hf, ⟨b, hb, hbn⟩, hT⟩
      have hne : f ≠ [] := by intro e; subst e; simp at hb
      have hpos : 0 < f.length := List.length_pos_iff.2 hne
      have hlast : f[f.length - 1]? = some (f.getLast hne) := by rw [List.getLast_eq_getElem, List.getElem?_eq_getElem (by omega)]
      have hsub : ((f.length : Int) - 1) = ((f.length - 1 : Nat) : Int) := by omega
      rw [trim0_last f hne] at hT
      by_cases q : f.getLast hne = 48
      · rw [if_pos q] at hT
        have q' : (((f.getLast hne).toNat : Int) = 48) = True := eq_true (by rw [q]; rfl)
        simp (disch := (try simp only [List.length_append, List.length_cons, List.length_nil]); omega) only [t5, hsub, hlast, q', go_sem, Nat.reduceEqDiff, ↓reduceIte]
        refine ⟨f.length - 1, by omega, hJ _ _ _ ⟨f.dropLast, by simp [upd, List.dropLast_eq_take], by simp [upd, t3], by simp, by simp; omega, ⟨b, ?_, hbn⟩, hT⟩⟩
        have e : f = f.dropLast ++ [f.getLast hne] := (List.dropLast_concat_getLast hne).symm
        rw [e] at hb
        rcases List.mem_append.1 hb with z | z
        · exact z
        · simp at z; rw [q] at z; exact absurd z hbn
      · rw [if_neg q] at hT
        have q' : (((f.getLast hne).toNat : Int) = 48) = False := by
          have := u8_eq (f.getLast hne) 48
          rw [show ((UInt8.toNat 48 : Nat) : Int) = 48 from rfl] at this
          rw [this]; simp [q]
        have hne2 : (wholeD (u / 1000000) ++ 46 :: f = []) = False := by simp
        simp (disch := (try simp only [List.length_append, List.length_cons, List.length_nil]); omega) only [t5, t3, hsub, hlast, q', hne2, go_sem, Nat.reduceEqDiff, ↓reduceIte]
        exact resolve_str (by rw [textAbs, if_neg (by omega), fracD, if_neg (by omega), hT])
  · have hq2 : ((0 : Int) < ((u % 1000000 : Nat) : Int)) = False := by first | (simp; done) | (simp; omega)
    simp (disch := (try simp only [List.length_append, List.length_cons, List.length_nil]); omega) only [hq2, e3, go_sem, Nat.reduceEqDiff, reduceCtorEq, ↓reduceIte]
    by_cases hu0 : u = 0
    · subst hu0
      have : (wholeD (0 / 1000000) = []) = True := by simp [wholeD]
      simp (disch := (try simp only [List.length_append, List.length_cons, List.length_nil]); omega) only [this, go_sem, ↓reduceIte]
      exact resolve_str rfl
    · have : (wholeD (u / 1000000) = []) = False := by
        have hx : u / 1000000 ≠ 0 := by omega
        simp [wholeD, hx, decDigits_ne]
      simp (disch := (try simp only [List.length_append, List.length_cons, List.length_nil]); omega) only [this, go_sem, Nat.reduceEqDiff, ↓reduceIte]
      exact resolve_str (by rw [textAbs, if_neg hu0, fracD, if_pos (by omega)]; simp)

theorem numText_neg (n : Int) (h : n < 0) : numText n = 45 :: textAbs n.natAbs := by unfold numText; rw [if_pos h]
theorem numText_pos (n : Int) (h : 0 ≤ n) : numText n = textAbs n.natAbs := by unfold numText; rw [if_neg (by omega)]
theorem spec_l01Text_ok (n : Int) (h1 : -999999999999999999 ≤ n) (h2 : n ≤ 999999999999999999) (h : List Row) : PureCall Tryz.prog 110 [.val (.int .i64 n)] h (.val (.string (txt (numText n)))) := by
  by_cases hneg : n < 0
  · refine pure_fn mixed Tryz.func110 low_spec_l01Text rfl rfl ?_ h
    have e1 : (0 - n) = ((n.natAbs : Nat) : Int) := by omega
    have hl := textAbs_length (u := n.natAbs) (by omega)
    simp (disch := (try simp only [List.length_append, List.length_cons, List.length_nil]); omega) only [lf_spec_l01Text, c_spec_l01Text, hneg, e1, go_sem, reduceCtorEq, ↓reduceIte]
    refine PureCall.call (spec_l01Text_pos n.natAbs (by omega) _) ?_
    simp (disch := (try simp only [List.length_append, List.length_cons, List.length_nil]); omega) only [go_sem, ↓reduceIte]
    exact resolve_str (by rw [numText_neg n hneg])
  · have e : n = ((n.natAbs : Nat) : Int) := by omega
    rw [numText_pos n (by omega)]
    have := spec_l01Text_pos n.natAbs (by omega) h
    rw [← e] at this
    exact this

theorem sgn_step {l : List UInt8} {k : Nat} (hk : k < l.length) (hs : isSgn l[k] = true) {m : Bool} (h : sgnNeg l = (m != (((l.drop k).takeWhile isSgn).count 45 % 2 == 1))) :
    sgnNeg l = ((m != (l[k] == 45)) != (((l.drop (k + 1)).takeWhile isSgn).count 45 % 2 == 1)) := by
  rw [h, drop_at l k hk, List.takeWhile_cons, if_pos hs, List.count_cons]
  generalize ((l.drop (k + 1)).takeWhile isSgn).count 45 = c
  by_cases q : l[k] = 45
  · rw [q]
    have h1 : ((c + 1) % 2 == 1) = !(c % 2 == 1) := by
      rw [Bool.eq_iff_iff]; simp; omega
    simp only [BEq.rfl, if_true, h1]
    cases m <;> cases (c % 2 == 1) <;> rfl
  · have q' : (l[k] == 45) = false := by simpa using q
    simp [q']
def c_spec_l01Of : LC :=
 .seq (.ops [⟨some 2, none, .mov (.const (.int .i64 0))⟩]) (.seq (.ops [⟨some 3, none, .mov (.const (.int .i64 0))⟩]) (.seq (.ops [⟨some 4, none, .mov (.const (.bool false))⟩]) (.seq (.block 0 (.loop (.seq (.seq (.ops
 [⟨some 7, none, .mov (.tmp 3)⟩, ⟨some 8, none, .mov (.tmp 0)⟩, ⟨some 9, none, .lenStr (.tmp 8)⟩, ⟨some 10, none, .bin .lss false (.tmp 7) (.tmp 9)⟩, ⟨some 11, none, .mov (.tmp 10)⟩, ⟨some 12, (some (11, true)), .mov (.tmp
 0)⟩, ⟨some 13, (some (11, true)), .mov (.tmp 3)⟩, ⟨some 14, (some (11, true)), .indexStr (.tmp 12) (.tmp 13)⟩, ⟨some 15, (some (11, true)), .bin .eql false (.tmp 14) (.const (.int .u8 43))⟩, ⟨some 16, (some (11, true)),
 .mov (.tmp 15)⟩, ⟨some 17, (some (16, false)), .mov (.tmp 0)⟩, ⟨some 18, (some (16, false)), .mov (.tmp 3)⟩, ⟨some 19, (some (16, false)), .indexStr (.tmp 17) (.tmp 18)⟩, ⟨some 20, (some (16, false)), .bin .eql false
 (.tmp 19) (.const (.int .u8 45))⟩, ⟨some 21, (some (11, true)), .pick (.tmp 16) (.const (.bool true)) (.tmp 20)⟩, ⟨some 22, none, .pick (.tmp 11) (.tmp 21) (.const (.bool false))⟩]) (.cond (.tmp 22) (.skip) (.exit 0)))
 (.block 1 (.seq (.ops [⟨some 23, none, .mov (.tmp 4)⟩, ⟨some 24, none, .mov (.tmp 0)⟩, ⟨some 25, none, .mov (.tmp 3)⟩, ⟨some 26, none, .indexStr (.tmp 24) (.tmp 25)⟩, ⟨some 27, none, .bin .eql false (.tmp 26) (.const
 (.int .u8 45))⟩, ⟨some 28, none, .bin .neq true (.tmp 23) (.tmp 27)⟩, ⟨some 4, none, .mov (.tmp 28)⟩]) (.ops [⟨some 29, none, .mov (.tmp 3)⟩, ⟨some 30, none, .bin .add false (.tmp 29) (.const (.int .i64 1))⟩, ⟨some 3,
 none, .mov (.tmp 30)⟩])))))) (.seq (.ops [⟨some 5, none, .mov (.const (.int .i64 0))⟩]) (.seq (.block 2 (.loop (.seq (.seq (.ops [⟨some 31, none, .mov (.tmp 3)⟩, ⟨some 32, none, .mov (.tmp 0)⟩, ⟨some 33, none, .lenStr
 (.tmp 32)⟩, ⟨some 34, none, .bin .lss false (.tmp 31) (.tmp 33)⟩, ⟨some 35, none, .mov (.tmp 34)⟩, ⟨some 36, (some (35, true)), .mov (.tmp 0)⟩, ⟨some 37, (some (35, true)), .mov (.tmp 3)⟩, ⟨some 38, (some (35, true)),
 .indexStr (.tmp 36) (.tmp 37)⟩, ⟨some 39, (some (35, true)), .call 70 [.tmp 38]⟩, ⟨some 40, none, .pick (.tmp 35) (.tmp 39) (.const (.bool false))⟩]) (.cond (.tmp 40) (.skip) (.exit 2))) (.block 3 (.seq (.ops [⟨some 41,
 none, .mov (.tmp 5)⟩, ⟨some 42, none, .bin .mul false (.const (.int .i64 10)) (.tmp 41)⟩, ⟨some 43, none, .mov (.tmp 0)⟩, ⟨some 44, none, .mov (.tmp 3)⟩, ⟨some 45, none, .indexStr (.tmp 43) (.tmp 44)⟩, ⟨some 46, none,
 .bin .sub false (.tmp 45) (.const (.int .u8 48))⟩, ⟨some 47, none, .convInt .i64 (.tmp 46)⟩, ⟨some 48, none, .bin .add false (.tmp 42) (.tmp 47)⟩, ⟨some 49, none, .call 111 [.tmp 48, .const (.int .i64 1000000000000)]⟩,
 ⟨some 5, none, .mov (.tmp 49)⟩]) (.ops [⟨some 50, none, .mov (.tmp 3)⟩, ⟨some 51, none, .bin .add false (.tmp 50) (.const (.int .i64 1))⟩, ⟨some 3, none, .mov (.tmp 51)⟩])))))) (.seq (.ops [⟨some 52, none, .mov (.tmp 5)⟩,
 ⟨some 53, none, .bin .mul false (.tmp 52) (.const (.int .i64 1000000))⟩, ⟨some 54, none, .call 111 [.tmp 53, .const (.int .i64 1000000000000000000)]⟩, ⟨some 5, none, .mov (.tmp 54)⟩]) (.seq (.seq (.ops [⟨some 55, none,
 .mov (.tmp 3)⟩, ⟨some 56, none, .mov (.tmp 0)⟩, ⟨some 57, none, .lenStr (.tmp 56)⟩, ⟨some 58, none, .bin .lss false (.tmp 55) (.tmp 57)⟩, ⟨some 59, none, .mov (.tmp 58)⟩, ⟨some 60, (some (59, true)), .mov (.tmp 0)⟩, ⟨some
 61, (some (59, true)), .mov (.tmp 3)⟩, ⟨some 62, (some (59, true)), .indexStr (.tmp 60) (.tmp 61)⟩, ⟨some 63, (some (59, true)), .bin .eql false (.tmp 62) (.const (.int .u8 46))⟩, ⟨some 64, none, .pick (.tmp 59) (.tmp 63)
 (.const (.bool false))⟩]) (.cond (.tmp 64) (.seq (.ops [⟨some 6, none, .mov (.const (.int .i64 100000))⟩]) (.seq (.ops [⟨some 65, none, .mov (.tmp 3)⟩, ⟨some 66, none, .bin .add false (.tmp 65) (.const (.int .i64 1))⟩,
 ⟨some 3, none, .mov (.tmp 66)⟩]) (.block 4 (.loop (.seq (.seq (.ops [⟨some 67, none, .mov (.tmp 3)⟩, ⟨some 68, none, .mov (.tmp 0)⟩, ⟨some 69, none, .lenStr (.tmp 68)⟩, ⟨some 70, none, .bin .lss false (.tmp 67) (.tmp
 69)⟩, ⟨some 71, none, .mov (.tmp 70)⟩, ⟨some 72, (some (71, true)), .mov (.tmp 0)⟩, ⟨some 73, (some (71, true)), .mov (.tmp 3)⟩, ⟨some 74, (some (71, true)), .indexStr (.tmp 72) (.tmp 73)⟩, ⟨some 75, (some (71, true)),
 .call 70 [.tmp 74]⟩, ⟨some 76, none, .pick (.tmp 71) (.tmp 75) (.const (.bool false))⟩]) (.cond (.tmp 76) (.skip) (.exit 4))) (.seq (.block 5 (.seq (.ops [⟨some 79, none, .mov (.tmp 5)⟩, ⟨some 80, none, .mov (.tmp 0)⟩,
 ⟨some 81, none, .mov (.tmp 3)⟩, ⟨some 82, none, .indexStr (.tmp 80) (.tmp 81)⟩, ⟨some 83, none, .bin .sub false (.tmp 82) (.const (.int .u8 48))⟩, ⟨some 84, none, .convInt .i64 (.tmp 83)⟩, ⟨some 85, none, .mov (.tmp 6)⟩,
 ⟨some 86, none, .bin .mul false (.tmp 84) (.tmp 85)⟩, ⟨some 87, none, .bin .add false (.tmp 79) (.tmp 86)⟩, ⟨some 5, none, .mov (.tmp 87)⟩]) (.ops [⟨some 88, none, .mov (.tmp 6)⟩, ⟨some 89, none, .bin .quo false (.tmp 88)
 (.const (.int .i64 10))⟩, ⟨some 6, none, .mov (.tmp 89)⟩]))) (.ops [⟨some 77, none, .mov (.tmp 3)⟩, ⟨some 78, none, .bin .add false (.tmp 77) (.const (.int .i64 1))⟩, ⟨some 3, none, .mov (.tmp 78)⟩]))))))) (.skip))) (.seq
 (.ops [⟨some 90, none, .mov (.tmp 5)⟩, ⟨some 91, none, .call 111 [.tmp 90, .const (.int .i64 999999999999999999)]⟩, ⟨some 5, none, .mov (.tmp 91)⟩]) (.seq (.seq (.ops [⟨some 92, none, .mov (.tmp 4)⟩]) (.cond (.tmp 92)
 (.seq (.ops [⟨some 93, none, .mov (.tmp 5)⟩, ⟨some 94, none, .un .neg (.tmp 93)⟩, ⟨some 2, none, .mov (.tmp 94)⟩]) (.ret)) (.skip))) (.seq (.ops [⟨some 95, none, .mov (.tmp 5)⟩, ⟨some 2, none, .mov (.tmp 95)⟩])
 (.ret)))))))))))
def lf_spec_l01Of : LF := { np := 1, N := 96, body := c_spec_l01Of, res := [.tmp 2] }
theorem low_spec_l01Of : LowF Tryz.prog Tryz.f91 lf_spec_l01Of := LowF.mk' (by kernel_rfl) (by kernel_rfl) (by kernel_rfl) (by decide)

theorem spec_l01Of_ok (l : List UInt8) (hl : l.length ≤ 1900000) (h : List Row) : PureCall Tryz.prog 91 [.val (.string (txt l))] h (.val (.int .i64 (numOf l))) := by
  refine pure_fn mixed Tryz.func91 low_spec_l01Of rfl rfl ?_ h
  simp (disch := (try simp only [List.length_append, List.length_cons, List.length_nil]); omega) only [lf_spec_l01Of, c_spec_l01Of, go_sem]
  refine Ex_loop_out (fun m t h => ∃ (k : Nat) (s : Bool), t 0 = .val (.string (txt l)) ∧ t 3 = .val (.int .i64 k) ∧ t 4 = .val (.bool s) ∧ m = l.length - k ∧ k ≤ l.length ∧ restOf l = (l.drop k).dropWhile isSgn ∧ sgnNeg l = (s != (((l.drop k).takeWhile isSgn).count 45 % 2 == 1))) l.length
    (fun t h => ∃ k : Nat, t 0 = .val (.string (txt l)) ∧ t 3 = .val (.int .i64 k) ∧ t 4 = .val (.bool (sgnNeg l)) ∧ k ≤ l.length ∧ restOf l = l.drop k) ⟨0, false, rfl, rfl, rfl, rfl, Nat.zero_le _, rfl, by simp [sgnNeg]⟩ ?_ ?_
  · rintro J hJ k' hE m t h ⟨k, s, t0, t3, t4, rfl, hk, hR, hN⟩
    by_cases hlt : k < l.length
    · have hu := u8_lt l[k]
      have e43 := u8_eq l[k] 43
      have e45 := u8_eq l[k] 45
      rw [show ((UInt8.toNat 43 : Nat) : Int) = 43 from rfl] at e43
      rw [show ((UInt8.toNat 45 : Nat) : Int) = 45 from rfl] at e45
      by_cases hs : isSgn l[k] = true
      · have hR' : restOf l = (l.drop (k + 1)).dropWhile isSgn := by rw [hR, drop_at l k hlt, List.dropWhile_cons, if_pos hs]
        have hN' := sgn_step hlt hs hN
        by_cases q : l[k] = 43
        · have q45 : ¬ (l[k] = 45) := by rw [q]; decide
          have e43' := e43.trans (eq_true q)
          have e45' := e45.trans (eq_false q45)
          simp (disch := (try simp only [List.length_append, List.length_cons, List.length_nil]); omega) only [t0, t3, t4, hlt, e43', e45', go_sem, Nat.reduceEqDiff, reduceCtorEq, ↓reduceIte]
          refine ⟨l.length - (k + 1), by omega, hJ _ _ _ ⟨k + 1, s, by simp [upd, t0], by simp [upd], by simp [upd], rfl, by omega, hR', ?_⟩⟩
          rw [hN', q]; simp
        · have q45 : l[k] = 45 := by simpa [isSgn, q] using hs
          have e43' := e43.trans (eq_false q)
          have e45' := e45.trans (eq_true q45)
          simp (disch := (try simp only [List.length_append, List.length_cons, List.length_nil]); omega) only [t0, t3, t4, hlt, e43', e45', go_sem, Nat.reduceEqDiff, reduceCtorEq, ↓reduceIte]
          refine ⟨l.length - (k + 1), by omega, hJ _ _ _ ⟨k + 1, !s, by simp [upd, t0], by simp [upd], by simp [upd]; try cases s <;> rfl, rfl, by omega, hR', ?_⟩⟩
          rw [hN', q45]; cases s <;> simp
      · have hs' : isSgn l[k] = false := by simpa using hs
        have q43 : ¬ (l[k] = 43) := by intro e; rw [e] at hs; exact hs rfl
        have q45 : ¬ (l[k] = 45) := by intro e; rw [e] at hs; exact hs rfl
        have e43' := e43.trans (eq_false q43)
        have e45' := e45.trans (eq_false q45)
        have hR' : restOf l = l.drop k := by rw [hR, drop_at l k hlt, List.dropWhile_cons, hs']; rfl
        have hN' : sgnNeg l = s := by rw [hN, drop_at l k hlt, List.takeWhile_cons, hs']; simp
        simp (disch := (try simp only [List.length_append, List.length_cons, List.length_nil]); omega) only [t0, t3, hlt, e43', e45', go_sem, Nat.reduceEqDiff, reduceCtorEq, ↓reduceIte]
        exact hE _ _ ⟨k, by simp [upd, t0], by simp [upd, t3], by simp [upd, t4, hN'], hk, hR'⟩
    · have hR' : restOf l = l.drop k := by rw [hR, List.drop_eq_nil_of_le (by omega)]; rfl
      have hN' : sgnNeg l = s := by rw [hN, List.drop_eq_nil_of_le (by omega)]; simp
      simp (disch := (try simp only [List.length_append, List.length_cons, List.length_nil]); omega) only [t0, t3, hlt, go_sem, Nat.reduceEqDiff, reduceCtorEq, ↓reduceIte]
      exact hE _ _ ⟨k, by simp [upd, t0], by simp [upd, t3], by simp [upd, t4, hN'], hk, hR'⟩
  rintro t h ⟨k0, t0, t3, t4, hk0, hR⟩
  simp (disch := (try simp only [List.length_append, List.length_cons, List.length_nil]); omega) only [go_sem]
  refine Ex_loop_out (fun m t h => ∃ (k n : Nat), t 0 = .val (.string (txt l)) ∧ t 3 = .val (.int .i64 k) ∧ t 4 = .val (.bool (sgnNeg l)) ∧ t 5 = .val (.int .i64 n) ∧ m = l.length - k ∧ k ≤ l.length ∧ n ≤ 1000000000000 ∧ (restOf l).dropWhile isDgt = (l.drop k).dropWhile isDgt ∧ whole12 0 (restOf l) = whole12 n (l.drop k)) (l.length - k0)
    (fun t h => ∃ k : Nat, t 0 = .val (.string (txt l)) ∧ t 3 = .val (.int .i64 k) ∧ t 4 = .val (.bool (sgnNeg l)) ∧ t 5 = .val (.int .i64 (whole12 0 (restOf l) : Nat)) ∧ k ≤ l.length ∧ whole12 0 (restOf l) ≤ 1000000000000 ∧ (restOf l).dropWhile isDgt = l.drop k) ⟨k0, 0, by simp [upd, t0], by simp [upd, t3], by simp [upd, t4], by simp [upd], rfl, hk0, by decide, by rw [hR], by rw [hR]⟩ ?_ ?_
  · rintro J hJ k' hE m t h ⟨k, n, t0, t3, t4, t5, rfl, hk, hn, hD, hW⟩
    by_cases hlt : k < l.length
    · have hu := u8_lt l[k]
      simp (disch := (try simp only [List.length_append, List.length_cons, List.length_nil]); omega) only [t0, t3, hlt, go_sem, Nat.reduceEqDiff, reduceCtorEq, ↓reduceIte]
      refine PureCall.call (spec_l01Digit_ok l[k] _) ?_
      by_cases hd : isDgt l[k] = true
      · have hr := dgt_range hd
        rw [drop_at l k hlt, whole12, if_pos hd] at hW
        rw [drop_at l k hlt, List.dropWhile_cons, if_pos hd] at hD
        simp (disch := (try simp only [List.length_append, List.length_cons, List.length_nil]); omega) only [t0, t3, t5, hd, go_sem, Nat.reduceEqDiff, reduceCtorEq, ↓reduceIte]
        refine PureCall.call (spec_l00Min_ok _ _ _) ?_
        simp (disch := (try simp only [List.length_append, List.length_cons, List.length_nil]); omega) only [t3, go_sem, Nat.reduceEqDiff, ↓reduceIte]
        refine ⟨l.length - (k + 1), by omega, hJ _ _ _ ⟨k + 1, min (10 * n + dgt l[k]) 1000000000000, by simp [upd, t0], by simp [upd], by simp [upd, t4], ?_, rfl, by omega, by omega, hD, hW⟩⟩
        simp only [upd, dgt]; simp; omega
      · have hd' : isDgt l[k] = false := by simpa using hd
        rw [drop_at l k hlt, whole12, if_neg hd] at hW
        have hD' : (restOf l).dropWhile isDgt = l.drop k := by rw [hD, drop_at l k hlt, List.dropWhile_cons, hd']; rfl
        simp (disch := (try simp only [List.length_append, List.length_cons, List.length_nil]); omega) only [hd', go_sem, Nat.reduceEqDiff, ↓reduceIte]
        exact hE _ _ ⟨k, by simp [upd, t0], by simp [upd, t3], by simp [upd, t4], by simp [upd, t5, hW], hk, by omega, hD'⟩
    · rw [List.drop_eq_nil_of_le (by omega), whole12] at hW
      have hD' : (restOf l).dropWhile isDgt = l.drop k := by rw [hD, List.drop_eq_nil_of_le (by omega)]; rfl
      simp (disch := (try simp only [List.length_append, List.length_cons, List.length_nil]); omega) only [t0, t3, hlt, go_sem, Nat.reduceEqDiff, reduceCtorEq, ↓reduceIte]
      exact hE _ _ ⟨k, by simp [upd, t0], by simp [upd, t3], by simp [upd, t4], by simp [upd, t5, hW], hk, by omega, hD'⟩
  rintro t h ⟨k1, t0, t3, t4, t5, hk1, hwl, hD⟩
  simp (disch := (try simp only [List.length_append, List.length_cons, List.length_nil]); omega) only [t5, go_sem, ↓reduceIte]
  refine PureCall.call (spec_l00Min_ok _ _ _) ?_
  obtain ⟨n1, hn1⟩ : ∃ n1 : Nat, n1 = min (whole12 0 (restOf l) * 1000000) 1000000000000000000 := ⟨_, rfl⟩
  have en1 : min ((whole12 0 (restOf l) : Int) * 1000000) 1000000000000000000 = (n1 : Int) := by omega
  rw [en1]
  have hle := numAbs_le l
  have hab : min (n1 + dval 0 (six (fracOf (restOf l)))) 999999999999999999 = numAbs l := by rw [hn1]; exact spec_abs l
  have habI : ∀ x : Nat, x = n1 + dval 0 (six (fracOf (restOf l))) → min (x : Int) 999999999999999999 = (numAbs l : Int) := by intro x hx; omega
  have hn1le : n1 ≤ 1000000000000000000 := by omega
  by_cases hlt : k1 < l.length
  case neg =>
    have hfr : fracOf (restOf l) = [] := fracOf_not (by rw [hD, List.drop_eq_nil_of_le (by omega)]; simp)
    have hz := habI n1 (by rw [hfr]; rfl)
    simp (disch := (try simp only [List.length_append, List.length_cons, List.length_nil]); omega) only [t0, t3, hlt, go_sem, Nat.reduceEqDiff, reduceCtorEq, ↓reduceIte]
    refine PureCall.call (spec_l00Min_ok _ _ _) ?_
    simp (disch := (try simp only [List.length_append, List.length_cons, List.length_nil]); omega) only [t4, hz, go_sem, Nat.reduceEqDiff, ↓reduceIte]
    refine ExC_split (fun hb => ?_) (fun hb => ?_)
    · simp (disch := (try simp only [List.length_append, List.length_cons, List.length_nil]); omega) only [go_sem, Nat.reduceEqDiff, ↓reduceIte]
      exact resolve_int (by unfold numOf; rw [if_pos hb]; omega)
    · simp (disch := (try simp only [List.length_append, List.length_cons, List.length_nil]); omega) only [go_sem, Nat.reduceEqDiff, ↓reduceIte]
      exact resolve_int (by unfold numOf; rw [if_neg (by rw [hb]; decide)])
  have e46 := u8_eq l[k1] 46
  rw [show ((UInt8.toNat 46 : Nat) : Int) = 46 from rfl] at e46
  by_cases hdot : l[k1] = 46
  case neg =>
    have e46' := e46.trans (eq_false hdot)
    have hfr : fracOf (restOf l) = [] := fracOf_not (by rw [hD, drop_at l k1 hlt]; intro t e; exact hdot (List.cons.inj e).1)
    have hz := habI n1 (by rw [hfr]; rfl)
    simp (disch := (try simp only [List.length_append, List.length_cons, List.length_nil]); omega) only [t0, t3, hlt, e46', go_sem, Nat.reduceEqDiff, reduceCtorEq, ↓reduceIte]
    refine PureCall.call (spec_l00Min_ok _ _ _) ?_
    simp (disch := (try simp only [List.length_append, List.length_cons, List.length_nil]); omega) only [t4, hz, go_sem, Nat.reduceEqDiff, ↓reduceIte]
    refine ExC_split (fun hb => ?_) (fun hb => ?_)
    · simp (disch := (try simp only [List.length_append, List.length_cons, List.length_nil]); omega) only [go_sem, Nat.reduceEqDiff, ↓reduceIte]
      exact resolve_int (by unfold numOf; rw [if_pos hb]; omega)
    · simp (disch := (try simp only [List.length_append, List.length_cons, List.length_nil]); omega) only [go_sem, Nat.reduceEqDiff, ↓reduceIte]
      exact resolve_int (by unfold numOf; rw [if_neg (by rw [hb]; decide)])
  have e46' := e46.trans (eq_true hdot)
  have hfr : fracOf (restOf l) = (l.drop (k1 + 1)).takeWhile isDgt := fracOf_yes (by rw [hD, drop_at l k1 hlt, hdot])
  have hrun : n1 + dval 0 (six (fracOf (restOf l))) = fracRun n1 100000 (l.drop (k1 + 1)) := by
    rw [hfr]; exact (fracRun_eq (l.drop (k1 + 1)) n1 6 (by decide)).symm
  simp (disch := (try simp only [List.length_append, List.length_cons, List.length_nil]); omega) only [t0, t3, hlt, e46', go_sem, Nat.reduceEqDiff, reduceCtorEq, ↓reduceIte]
  refine Ex_loop_out (fun m t h => ∃ (k n u : Nat), t 0 = .val (.string (txt l)) ∧ t 3 = .val (.int .i64 k) ∧ t 4 = .val (.bool (sgnNeg l)) ∧ t 5 = .val (.int .i64 n) ∧ t 6 = .val (.int .i64 u) ∧ m = l.length - k ∧ k ≤ l.length ∧ n + 10 * u ≤ 1000000000001000000 ∧ fracRun n1 100000 (l.drop (k1 + 1)) = fracRun n u (l.drop k)) (l.length - (k1 + 1))
    (fun t h => t 4 = .val (.bool (sgnNeg l)) ∧ t 5 = .val (.int .i64 (fracRun n1 100000 (l.drop (k1 + 1)) : Nat))) ⟨k1 + 1, n1, 100000, by simp [upd, t0], by simp [upd], by simp [upd, t4], by simp [upd], by simp [upd], rfl, by omega, by omega, rfl⟩ ?_ ?_
  · rintro J hJ k' hE m t h ⟨k, n, u, t0, t3, t4, t5, t6, rfl, hk, hb, hF⟩
    by_cases hlt : k < l.length
    · have hu := u8_lt l[k]
      simp (disch := (try simp only [List.length_append, List.length_cons, List.length_nil]); omega) only [t0, t3, hlt, go_sem, Nat.reduceEqDiff, reduceCtorEq, ↓reduceIte]
      refine PureCall.call (spec_l01Digit_ok l[k] _) ?_
      by_cases hd : isDgt l[k] = true
      · have hr := dgt_range hd
        rw [drop_at l k hlt, fracRun, if_pos hd] at hF
        have hmul : dgt l[k] * u ≤ 9 * u := Nat.mul_le_mul_right _ (by unfold dgt; omega)
        have e5 : (((l[k].toNat : Nat) : Int) - 48) * ((u : Nat) : Int) = ((dgt l[k] * u : Nat) : Int) := by
          have : ((l[k].toNat : Nat) : Int) - 48 = ((dgt l[k] : Nat) : Int) := by unfold dgt; omega
          rw [this]; simp
        have e6 : ((u : Nat) : Int) / 10 = ((u / 10 : Nat) : Int) := by omega
        simp (disch := (try simp only [List.length_append, List.length_cons, List.length_nil]); omega) only [t0, t3, t5, t6, hd, e5, e6, go_sem, Nat.reduceEqDiff, reduceCtorEq, ↓reduceIte]
        refine ⟨l.length - (k + 1), by omega, hJ _ _ _ ⟨k + 1, n + dgt l[k] * u, u / 10, by simp [upd, t0], by simp [upd], by simp [upd, t4], by simp [upd], by simp [upd], rfl, by omega, by omega, hF⟩⟩
      · have hd' : isDgt l[k] = false := by simpa using hd
        rw [drop_at l k hlt, fracRun, if_neg hd] at hF
        simp (disch := (try simp only [List.length_append, List.length_cons, List.length_nil]); omega) only [hd', go_sem, Nat.reduceEqDiff, ↓reduceIte]
        exact hE _ _ ⟨by simp [upd, t4], by simp [upd, t5, hF]⟩
    · have hnil : l.drop k = [] := List.drop_eq_nil_of_le (by omega)
      rw [hnil, fracRun] at hF
      simp (disch := (try simp only [List.length_append, List.length_cons, List.length_nil]); omega) only [t0, t3, hlt, go_sem, Nat.reduceEqDiff, reduceCtorEq, ↓reduceIte]
      exact hE _ _ ⟨by simp [upd, t4], by simp [upd, t5, hF]⟩
  rintro t h ⟨t4, t5⟩
  have hz := habI _ hrun.symm
  simp (disch := (try simp only [List.length_append, List.length_cons, List.length_nil]); omega) only [t5, go_sem, ↓reduceIte]
  refine PureCall.call (spec_l00Min_ok _ _ _) ?_
  simp (disch := (try simp only [List.length_append, List.length_cons, List.length_nil]); omega) only [t4, hz, go_sem, Nat.reduceEqDiff, ↓reduceIte]
  refine ExC_split (fun hb => ?_) (fun hb => ?_)
  · simp (disch := (try simp only [List.length_append, List.length_cons, List.length_nil]); omega) only [go_sem, Nat.reduceEqDiff, ↓reduceIte]
    exact resolve_int (by unfold numOf; rw [if_pos hb]; omega)
  · simp (disch := (try simp only [List.length_append, List.length_cons, List.length_nil]); omega) only [go_sem, Nat.reduceEqDiff, ↓reduceIte]
    exact resolve_int (by unfold numOf; rw [if_neg (by rw [hb]; decide)])

def c_spec_l01Canon : LC :=
 .seq (.ops [⟨some 2, none, .mov (.const (.bool false))⟩]) (.seq (.ops [⟨some 3, none, .mov (.tmp 0)⟩, ⟨some 4, none, .bin .neq false (.tmp 3) (.const (.string ⟨#[]⟩))⟩, ⟨some 5, none, .mov (.tmp 4)⟩, ⟨some 6, (some (5,
 true)), .mov (.tmp 0)⟩, ⟨some 7, (some (5, true)), .lenStr (.tmp 6)⟩, ⟨some 8, (some (5, true)), .bin .leq false (.tmp 7) (.const (.int .i64 21))⟩, ⟨some 9, none, .pick (.tmp 5) (.tmp 8) (.const (.bool false))⟩, ⟨some 10,
 none, .mov (.tmp 9)⟩, ⟨some 11, (some (10, true)), .mov (.tmp 0)⟩, ⟨some 12, (some (10, true)), .call 91 [.tmp 11]⟩, ⟨some 13, (some (10, true)), .call 110 [.tmp 12]⟩, ⟨some 14, (some (10, true)), .mov (.tmp 0)⟩, ⟨some
 15, (some (10, true)), .bin .eql false (.tmp 13) (.tmp 14)⟩, ⟨some 16, none, .pick (.tmp 10) (.tmp 15) (.const (.bool false))⟩, ⟨some 2, none, .mov (.tmp 16)⟩]) (.ret))
def lf_spec_l01Canon : LF := { np := 1, N := 17, body := c_spec_l01Canon, res := [.tmp 2] }
theorem low_spec_l01Canon : LowF Tryz.prog Tryz.f90 lf_spec_l01Canon := LowF.mk' (by kernel_rfl) (by kernel_rfl) (by kernel_rfl) (by decide)

theorem spec_l01Canon_ok (l : List UInt8) (hl : l.length ≤ 1900000) (h : List Row) : PureCall Tryz.prog 90 [.val (.string (txt l))] h (.val (.bool (canon l))) := by
  refine pure_fn mixed Tryz.func90 low_spec_l01Canon rfl rfl ?_ h
  rw [← canon_spec]
  have hr := numOf_le l
  by_cases h0 : l = []
  · have h0' : (l = []) = True := eq_true h0
    simp (disch := (try simp only [List.length_append, List.length_cons, List.length_nil]); omega) only [lf_spec_l01Canon, c_spec_l01Canon, h0', go_sem, Nat.reduceEqDiff, reduceCtorEq, ↓reduceIte]
    exact resolve_bool (by simp [h0])
  · have h0' : (l = []) = False := eq_false h0
    by_cases h21 : (l.length : Int) ≤ 21
    · simp (disch := (try simp only [List.length_append, List.length_cons, List.length_nil]); omega) only [lf_spec_l01Canon, c_spec_l01Canon, h0', h21, go_sem, Nat.reduceEqDiff, reduceCtorEq, ↓reduceIte]
      refine PureCall.call (spec_l01Of_ok l hl _) ?_
      simp (disch := (try simp only [List.length_append, List.length_cons, List.length_nil]); omega) only [go_sem, Nat.reduceEqDiff, ↓reduceIte]
      refine PureCall.call (spec_l01Text_ok _ hr.1 hr.2 _) ?_
      simp (disch := (try simp only [List.length_append, List.length_cons, List.length_nil]); omega) only [go_sem, Nat.reduceEqDiff, reduceCtorEq, ↓reduceIte]
      have : l.length ≤ 21 := by omega
      exact resolve_bool (by simp [this])
    · simp (disch := (try simp only [List.length_append, List.length_cons, List.length_nil]); omega) only [lf_spec_l01Canon, c_spec_l01Canon, h0', h21, go_sem, Nat.reduceEqDiff, reduceCtorEq, ↓reduceIte]
      have : ¬ (l.length ≤ 21) := by omega
      exact resolve_bool (by simp [this])
end Go.Proofs.YtkddmakjmjmokaaGreatDoor
