/-
 Contracts of functions of this program, over abstract values. Conditions: as each theorem says.
-/
import Derived.Test.YtfplhbjggecnpaaGreatDoorPlKey
import Derived.Test.YtfplhbjggecnpaaGreatDoorAwC
import Derived.Lib.OthersKept
import Derived.Lib.Replace
namespace Go.Proofs.YtfplhbjggecnpaaGreatDoor
open List
open Go.AW
set_option linter.unusedVariables false
set_option linter.unusedSimpArgs false
set_option maxRecDepth 4000
def uZ_ : LC :=
 .seq (.ops [.s 4 (.mov (.const (.bool false)))]) (.seq (.seq (.ops [.m 6 0, .ll 7 6, .m 8 1, .ll 9 8, .bb 10 .neq false 7 9]) (.cond (.tmp 10) (.seq (.ops [.s 4 (.mov (.const (.bool false)))]) .ret) .skip)) (.seq (.seq
 (.ops [.m 11 0, .ll 12 11, .ki 13 0]) (.block 0 (.loop (.seq (.ops [.bb 14 .lss false 13 12]) (.seq (.cond (.tmp 14) .skip (.exit 0)) (.seq (.block 1 (.seq (.ops [.m 15 13, .m 5 15]) (.seq (.dops [.m 16 0, .m 17 5, .ia
 18 1 16 17, .ln 19 18, .m 20 1, .m 21 5, .ia 22 1 20 21, .ln 23 22, .bb 24 .neq false 19 23]) (.cond (.tmp 24) (.seq (.ops [.s 4 (.mov (.const (.bool false)))]) .ret) .skip)))) (.ops [.bk 25 .add false 13 1, .m 13
 25]))))))) (.seq (.ops [.s 4 (.mov (.const (.bool true)))]) .ret)))
def sD_ : LF := ⟨2, 26, uZ_, [.tmp 4]⟩
theorem AO_ : at_ Tryz.prog Tryz.f147 sD_ := ai_
def uX_ : LC :=
 .seq (.ops [.s 4 (.mov (.const (.bool false)))]) (.seq (.seq (.ops [.m 6 0, .ll 7 6, .m 8 1, .ll 9 8, .bb 10 .gtr false 7 9]) (.cond (.tmp 10) (.seq (.ops [.s 4 (.mov (.const (.bool false)))]) .ret) .skip)) (.seq (.seq
 (.ops [.ki 5 0]) (.block 0 (.loop (.seq (.seq (.ops [.m 11 5, .m 12 0, .ll 13 12, .bb 14 .lss false 11 13]) (.cond (.tmp 14) .skip (.exit 0))) (.seq (.block 1 (.seq (.dops [.m 17 0, .m 18 5, .ia 19 1 17 18, .ln 20 19, .m
 21 1, .m 22 5, .ia 23 1 21 22, .ln 24 23, .bb 25 .neq false 20 24]) (.cond (.tmp 25) (.seq (.ops [.s 4 (.mov (.const (.bool false)))]) .ret) .skip))) (.ops [.m 15 5, .bk 16 .add false 15 1, .m 5 16])))))) (.seq (.ops [.s
 4 (.mov (.const (.bool true)))]) .ret)))
def rH_ : LF := ⟨2, 26, uX_, [.tmp 4]⟩
theorem Bq_ : at_ Tryz.prog Tryz.f164 rH_ := ai_
abbrev bs (s : ByteArray) : List UInt8 := s.data.toList
abbrev bss (xs : List ByteArray) : List (List UInt8) := xs.map fun s => s.data.toList
theorem eA_ (s : ByteArray) : txt s.data.toList = s := (p5_ s).symm
theorem fa_ (s : ByteArray) : s.data.toList.length = s.size := by rw [Array.length_toList]; rfl
theorem mM_ (a b : ByteArray) : (a.data.toList = b.data.toList) = (a = b) := by
 apply propext; constructor
 ·intro h; rw [← eA_ a, ← eA_ b, h]
 ·intro h; rw [h]
theorem rl_ (a b : List ByteArray) : bss a = bss b ↔ a = b := by
 constructor
 ·intro h
  have : (bss a).map txt = (bss b).map txt := by rw [h]
  simpa [bss, map_map, Function.comp_def, eA_] using this
 ·intro h; rw [h]
theorem dM_ (s : ByteArray) (hs : s.size ≤ 1048576) (h : List Row) : aa_ Tryz.prog 203 [.val (.string s)] h (.val (.bool (b4_ s.data.toList))) := by
 have := mP_ s.data.toList (by rw [fa_]; omega) h
 rwa [eA_] at this
theorem ez_ (s : ByteArray) (hs : s.size ≤ 1048576) (h : List Row) : aa_ Tryz.prog 205 [.val (.string s)] h (.val (.int .i64 (bX_ s.data.toList))) := by
 have := j8_ s.data.toList (by rw [fa_]; omega) h
 rwa [eA_] at this
def eqS (s t : ByteArray) : Bool := decide (s = t)
def bm_ (xs ys : List ByteArray) : Bool := eT_ eqS xs ys
theorem de_ (xs ys : List ByteArray) (hx : xs.length ≤ 1048576) (h : List Row) : aa_ Tryz.prog 147 [.list 0 1 (xs.map am_), .list 0 1 (ys.map am_)] h (.val (.bool (bm_ xs ys))) := by
 refine aj_ mixed Tryz.func147 AO_ rfl rfl ?_ h
 by_cases hl : xs.length = ys.length
 ·have hl' : ((xs.length : Int) = (ys.length : Int)) = True := by simp [hl]
  simp (disch := omega) only [sD_, uZ_, hl', ag_, go_sem, Nat.reduceEqDiff, reduceCtorEq, ↓reduceIte]
  refine aL_ (fun n t h => ∃ k : Nat, t 0 = .list 0 1 (xs.map am_) ∧ t 1 = .list 0 1 (ys.map am_) ∧ t 12 = .val (.int .i64 xs.length) ∧ t 13 = .val (.int .i64 k) ∧ h = [] ∧ n = xs.length - k ∧ k ≤ xs.length ∧ bm_ xs ys = eT_ eqS (xs.drop k) (ys.drop k)) xs.length ?_ ?_
  ·exact ⟨0, rfl, rfl, rfl, rfl, rfl, rfl, Nat.zero_le _, rfl⟩
  ·rintro J hJ n t h ⟨k, t0, t1, t12, t13, rfl, rfl, hk, hS⟩
   by_cases hlt : k < xs.length
   ·have hlt2 : k < ys.length := by omega
    rw [km_ eqS xs ys k hlt hlt2] at hS
    by_cases e : xs[k] = ys[k]
    ·simp (disch := omega) only [t0, t1, t12, t13, hlt, e, ag_, go_sem, Nat.reduceEqDiff, reduceCtorEq, ↓reduceIte, aq_]
     exact ⟨xs.length - (k + 1), by omega, hJ _ _ _ ⟨k + 1, by simp [upd, t0], by simp [upd, t1], by simp [upd, t12], by simp [upd], rfl, rfl, by omega, by rw [hS]; simp [eqS, e]⟩⟩
    ·simp (disch := omega) only [t0, t1, t12, t13, hlt, e, ag_, go_sem, Nat.reduceEqDiff, reduceCtorEq, ↓reduceIte, aq_]
     exact ae_ (by rw [hS]; simp [eqS, e])
   ·simp (disch := omega) only [t0, t1, t12, t13, hlt, ag_, go_sem, Nat.reduceEqDiff, reduceCtorEq, ↓reduceIte, aq_]
    exact ae_ (by rw [hS, lY_ _ _ _ _ (by omega) (by omega)])
 ·have hl' : ((xs.length : Int) = (ys.length : Int)) = False := by simp; omega
  simp (disch := omega) only [sD_, uZ_, hl', ag_, go_sem, Nat.reduceEqDiff, reduceCtorEq, ↓reduceIte]
  exact ae_ (by rw [bm_, g2_ _ _ _ hl])
def cW_ (xs ys : List ByteArray) : Bool := decide (xs.length ≤ ys.length) && eT_ eqS xs (ys.take xs.length)
theorem lm_ (xs ys : List ByteArray) (hx : xs.length ≤ 1048576) (h : List Row) : aa_ Tryz.prog 164 [.list 0 1 (xs.map am_), .list 0 1 (ys.map am_)] h (.val (.bool (cW_ xs ys))) := by
 refine aj_ mixed Tryz.func164 Bq_ rfl rfl ?_ h
 by_cases hl : ys.length < xs.length
 ·simp (disch := omega) only [rH_, uX_, hl, ag_, go_sem, Nat.reduceEqDiff, reduceCtorEq, ↓reduceIte]
  exact ae_ (by simp [cW_]; omega)
 ·simp (disch := omega) only [rH_, uX_, hl, ag_, go_sem, Nat.reduceEqDiff, reduceCtorEq, ↓reduceIte]
  have hT : (ys.take xs.length).length = xs.length := by simp; omega
  refine aL_ (fun n t h => ∃ k : Nat, t 0 = .list 0 1 (xs.map am_) ∧ t 1 = .list 0 1 (ys.map am_) ∧ t 5 = .val (.int .i64 k) ∧ h = [] ∧ n = xs.length - k ∧ k ≤ xs.length ∧ cW_ xs ys = eT_ eqS (xs.drop k) ((ys.take xs.length).drop k)) xs.length ?_ ?_
  ·exact ⟨0, rfl, rfl, rfl, rfl, rfl, Nat.zero_le _, by simp [cW_]; omega⟩
  ·rintro J hJ n t h ⟨k, t0, t1, t5, rfl, rfl, hk, hS⟩
   by_cases hlt : k < xs.length
   ·have hlt2 : k < ys.length := by omega
    rw [km_ eqS xs _ k hlt (by omega)] at hS
    have hg : (ys.take xs.length)[k]'(by omega) = ys[k] := by simp
    rw [hg] at hS
    by_cases e : xs[k] = ys[k]
    ·simp (disch := omega) only [t0, t1, t5, hlt, e, ag_, go_sem, Nat.reduceEqDiff, reduceCtorEq, ↓reduceIte, aq_]
     exact ⟨xs.length - (k + 1), by omega, hJ _ _ _ ⟨k + 1, by simp [upd, t0], by simp [upd, t1], by simp [upd], rfl, rfl, by omega, by rw [hS]; simp [eqS, e]⟩⟩
    ·simp (disch := omega) only [t0, t1, t5, hlt, e, ag_, go_sem, Nat.reduceEqDiff, reduceCtorEq, ↓reduceIte, aq_]
     exact ae_ (by rw [hS]; simp [eqS, e])
   ·simp (disch := omega) only [t0, t1, t5, hlt, ag_, go_sem, Nat.reduceEqDiff, reduceCtorEq, ↓reduceIte, aq_]
    exact ae_ (by rw [hS, lY_ _ _ _ _ (by omega) (by omega)])
theorem qx_ (xs ys : List ByteArray) (h : xs.length = ys.length) : cW_ xs ys = bm_ xs ys := by
 simp [cW_, bm_, h, take_of_length_le]
def eb_ (b : Int) : Bool := decide (97 ≤ b) && decide (b ≤ 122) || decide (65 ≤ b) && decide (b ≤ 90)
def gf_ (b : Int) : Bool := decide (48 ≤ b) && decide (b ≤ 57)
def bR_ (s : ByteArray) : Bool := decide (1 ≤ (s.size : Int)) && decide ((s.size : Int) ≤ 24)
def Bl_ : LC :=
 .seq (.ops [.s 2 (.mov (.const (.bool false)))]) (.seq (.ops [.m 3 0, .s 4 (.bin .leq false (.const (.int .u8 97)) (.tmp 3)), .m 5 4, .g 6 5 true (.mov (.tmp 0)), .g 7 5 true (.bin .leq false (.tmp 6) (.const (.int .u8
 122))), .pf 8 5 7, .m 9 8, .g 10 9 false (.mov (.tmp 0)), .g 11 9 false (.bin .leq false (.const (.int .u8 65)) (.tmp 10)), .g 12 9 false (.mov (.tmp 11)), .g 13 12 true (.mov (.tmp 0)), .g 14 12 true (.bin .leq false
 (.tmp 13) (.const (.int .u8 90))), .g 15 9 false (.pick (.tmp 12) (.tmp 14) (.const (.bool false))), .pt 16 9 15, .m 2 16]) .ret)
def xt_ : LF := ⟨1, 17, Bl_, [.tmp 2]⟩
theorem Dm_ : at_ Tryz.prog Tryz.f175 xt_ := ai_
theorem eK_ (b : Int)  (h : List Row) : aa_ Tryz.prog 175 [.val (.int .u8 b)] h (.val (.bool (eb_ b))) := by
 refine aj_ mixed Tryz.func175 Dm_ rfl rfl ?_ h
 simp (disch := omega) only [xt_, Bl_, go_sem, reduceCtorEq, ↓reduceIte]
 repeat' (first
  | exact af_ _ _
  | (refine ae_ ?_; first | rfl | (simp only [eb_, *, Bool.true_and, Bool.and_false, Bool.false_and, Bool.true_or, Bool.false_or, decide_true, decide_false, Bool.and_self, Bool.or_self]; done) | (simp [eb_, *]; done))
  | simp (disch := omega) only [go_sem, Nat.reduceEqDiff, reduceCtorEq, ↓reduceIte]
  | ((first | (apply aS_; assumption) | (apply aT_; assumption) | (apply a8_; assumption) | (apply a9_; assumption)); intro hb; try simp only [hb])
  | ((first | (apply aF_; assumption) | (apply aE_; assumption) | (apply aN_; assumption) | (apply aO_; assumption)); intro hb; try simp only [hb])
  | ((first | apply az_ | apply aC_ | apply ak_ | apply an_) <;> intro hb <;> (try simp only [hb]) <;> (first | have hp := aV_ hb | have hp := aU_ hb | have hp := aW_ hb | have hp := aX_ hb | skip)))
def zu_ : LC :=
 .seq (.ops [.s 2 (.mov (.const (.bool false)))]) (.seq (.ops [.m 3 0, .s 4 (.bin .geq false (.tmp 3) (.const (.int .u8 97))), .m 5 4, .g 6 5 true (.mov (.tmp 0)), .g 7 5 true (.bin .leq false (.tmp 6) (.const (.int .u8
 122))), .pf 8 5 7, .m 9 8, .g 10 9 false (.mov (.tmp 0)), .g 11 9 false (.bin .geq false (.tmp 10) (.const (.int .u8 65))), .g 12 9 false (.mov (.tmp 11)), .g 13 12 true (.mov (.tmp 0)), .g 14 12 true (.bin .leq false
 (.tmp 13) (.const (.int .u8 90))), .g 15 9 false (.pick (.tmp 12) (.tmp 14) (.const (.bool false))), .pt 16 9 15, .m 2 16]) .ret)
def wl_ : LF := ⟨1, 17, zu_, [.tmp 2]⟩
theorem Ce_ : at_ Tryz.prog Tryz.f219 wl_ := ai_
theorem c0_ (b : Int)  (h : List Row) : aa_ Tryz.prog 219 [.val (.int .u8 b)] h (.val (.bool (eb_ b))) := by
 refine aj_ mixed Tryz.func219 Ce_ rfl rfl ?_ h
 simp (disch := omega) only [wl_, zu_, go_sem, reduceCtorEq, ↓reduceIte]
 repeat' (first
  | exact af_ _ _
  | (refine ae_ ?_; first | rfl | (simp only [eb_, *, Bool.true_and, Bool.and_false, Bool.false_and, Bool.true_or, Bool.false_or, decide_true, decide_false, Bool.and_self, Bool.or_self]; done) | (simp [eb_, *]; done))
  | simp (disch := omega) only [go_sem, Nat.reduceEqDiff, reduceCtorEq, ↓reduceIte]
  | ((first | (apply aS_; assumption) | (apply aT_; assumption) | (apply a8_; assumption) | (apply a9_; assumption)); intro hb; try simp only [hb])
  | ((first | (apply aF_; assumption) | (apply aE_; assumption) | (apply aN_; assumption) | (apply aO_; assumption)); intro hb; try simp only [hb])
  | ((first | apply az_ | apply aC_ | apply ak_ | apply an_) <;> intro hb <;> (try simp only [hb]) <;> (first | have hp := aV_ hb | have hp := aU_ hb | have hp := aW_ hb | have hp := aX_ hb | skip)))
def AL_ : LC :=
 .seq (.ops [.s 2 (.mov (.const (.bool false)))]) (.seq (.ops [.m 3 0, .s 4 (.bin .leq false (.const (.int .u8 48)) (.tmp 3)), .m 5 4, .g 6 5 true (.mov (.tmp 0)), .g 7 5 true (.bin .leq false (.tmp 6) (.const (.int .u8
 57))), .pf 8 5 7, .m 2 8]) .ret)
def wS_ : LF := ⟨1, 9, AL_, [.tmp 2]⟩
theorem Aw_ : at_ Tryz.prog Tryz.f176 wS_ := ai_
theorem eW_ (b : Int)  (h : List Row) : aa_ Tryz.prog 176 [.val (.int .u8 b)] h (.val (.bool (gf_ b))) := by
 refine aj_ mixed Tryz.func176 Aw_ rfl rfl ?_ h
 simp (disch := omega) only [wS_, AL_, go_sem, reduceCtorEq, ↓reduceIte]
 repeat' (first
  | exact af_ _ _
  | (refine ae_ ?_; first | rfl | (simp only [gf_, *, Bool.true_and, Bool.false_and, decide_true, decide_false]; done) | (simp [gf_, *]; done))
  | simp (disch := omega) only [go_sem, Nat.reduceEqDiff, reduceCtorEq, ↓reduceIte]
  | ((first | (apply aS_; assumption) | (apply aT_; assumption) | (apply a8_; assumption) | (apply a9_; assumption)); intro hb; try simp only [hb])
  | ((first | (apply aF_; assumption) | (apply aE_; assumption) | (apply aN_; assumption) | (apply aO_; assumption)); intro hb; try simp only [hb])
  | ((first | apply az_ | apply aC_ | apply ak_ | apply an_) <;> intro hb <;> (try simp only [hb]) <;> (first | have hp := aV_ hb | have hp := aU_ hb | have hp := aW_ hb | have hp := aX_ hb | skip)))
theorem en_ (b : Int)  (h : List Row) : aa_ Tryz.prog 220 [.val (.int .u8 b)] h (.val (.bool (gf_ b))) := by
 refine aj_ mixed Tryz.func220 tC_ rfl rfl ?_ h
 simp (disch := omega) only [rC_, vu_, go_sem, reduceCtorEq, ↓reduceIte]
 repeat' (first
  | exact af_ _ _
  | (refine ae_ ?_; first | rfl | (simp only [gf_, *, Bool.true_and, Bool.false_and, decide_true, decide_false]; done) | (simp [gf_, *]; done))
  | simp (disch := omega) only [go_sem, Nat.reduceEqDiff, reduceCtorEq, ↓reduceIte]
  | ((first | (apply aS_; assumption) | (apply aT_; assumption) | (apply a8_; assumption) | (apply a9_; assumption)); intro hb; try simp only [hb])
  | ((first | (apply aF_; assumption) | (apply aE_; assumption) | (apply aN_; assumption) | (apply aO_; assumption)); intro hb; try simp only [hb])
  | ((first | apply az_ | apply aC_ | apply ak_ | apply an_) <;> intro hb <;> (try simp only [hb]) <;> (first | have hp := aV_ hb | have hp := aU_ hb | have hp := aW_ hb | have hp := aX_ hb | skip)))
def CC_ : LC :=
 .seq (.ops [.s 2 (.mov (.const (.bool false)))]) (.seq (.ops [.m 3 0, .s 4 (.lenStr (.tmp 3)), .bk 5 .geq false 4 1, .m 6 5, .g 7 6 true (.mov (.tmp 0)), .g 8 6 true (.lenStr (.tmp 7)), .g 9 6 true (.bin .leq false (.tmp
 8) (.const (.int .i64 24))), .pf 10 6 9, .m 2 10]) .ret)
def xw_ : LF := ⟨1, 11, CC_, [.tmp 2]⟩
theorem Ct_ : at_ Tryz.prog Tryz.f179 xw_ := ai_
theorem fO_ (s : ByteArray)  (h : List Row) : aa_ Tryz.prog 179 [.val (.string s)] h (.val (.bool (bR_ s))) := by
 refine aj_ mixed Tryz.func179 Ct_ rfl rfl ?_ h
 simp (disch := omega) only [xw_, CC_, go_sem, reduceCtorEq, ↓reduceIte]
 repeat' (first
  | exact af_ _ _
  | (refine ae_ ?_; first | rfl | (simp only [bR_, *, Bool.true_and, Bool.false_and, decide_true, decide_false]; done) | (simp [bR_, *]; done))
  | simp (disch := omega) only [go_sem, Nat.reduceEqDiff, reduceCtorEq, ↓reduceIte]
  | ((first | (apply aS_; assumption) | (apply aT_; assumption) | (apply a8_; assumption) | (apply a9_; assumption)); intro hb; try simp only [hb])
  | ((first | (apply aF_; assumption) | (apply aE_; assumption) | (apply aN_; assumption) | (apply aO_; assumption)); intro hb; try simp only [hb])
  | ((first | apply az_ | apply aC_ | apply ak_ | apply an_) <;> intro hb <;> (try simp only [hb]) <;> (first | have hp := aV_ hb | have hp := aU_ hb | have hp := aW_ hb | have hp := aX_ hb | skip)))
def CF_ : LC :=
 .seq (.ops [.s 2 (.mov (.const (.bool false)))]) (.seq (.ops [.m 3 0, .s 4 (.lenStr (.tmp 3)), .bk 5 .geq false 4 1, .m 6 5, .g 7 6 true (.mov (.tmp 0)), .g 8 6 true (.lenStr (.tmp 7)), .g 9 6 true (.bin .leq false (.tmp
 8) (.const (.int .i64 24))), .pf 10 6 9, .m 2 10]) .ret)
def xM_ : LF := ⟨1, 11, CF_, [.tmp 2]⟩
theorem Ah_ : at_ Tryz.prog Tryz.f160 xM_ := ai_
theorem dC_ (s : ByteArray)  (h : List Row) : aa_ Tryz.prog 160 [.val (.string s)] h (.val (.bool (bR_ s))) := by
 refine aj_ mixed Tryz.func160 Ah_ rfl rfl ?_ h
 simp (disch := omega) only [xM_, CF_, go_sem, reduceCtorEq, ↓reduceIte]
 repeat' (first
  | exact af_ _ _
  | (refine ae_ ?_; first | rfl | (simp only [bR_, *, Bool.true_and, Bool.false_and, decide_true, decide_false]; done) | (simp [bR_, *]; done))
  | simp (disch := omega) only [go_sem, Nat.reduceEqDiff, reduceCtorEq, ↓reduceIte]
  | ((first | (apply aS_; assumption) | (apply aT_; assumption) | (apply a8_; assumption) | (apply a9_; assumption)); intro hb; try simp only [hb])
  | ((first | (apply aF_; assumption) | (apply aE_; assumption) | (apply aN_; assumption) | (apply aO_; assumption)); intro hb; try simp only [hb])
  | ((first | apply az_ | apply aC_ | apply ak_ | apply an_) <;> intro hb <;> (try simp only [hb]) <;> (first | have hp := aV_ hb | have hp := aU_ hb | have hp := aW_ hb | have hp := aX_ hb | skip)))
def Ag_ : LC :=
 .seq (.ops [.s 2 (.mov (.const (.bool false)))]) (.seq (.ops [.m 3 0, .c1 4 160 3, .m 2 4]) .ret)
def xx_ : LF := ⟨1, 5, Ag_, [.tmp 2]⟩
theorem z9_ : at_ Tryz.prog Tryz.f123 xx_ := ai_
theorem dY_ (s : ByteArray)  (h : List Row) : aa_ Tryz.prog 123 [.val (.string s)] h (.val (.bool (bR_ s))) := by
 refine aj_ mixed Tryz.func123 z9_ rfl rfl ?_ h
 simp (disch := omega) only [xx_, Ag_, go_sem, reduceCtorEq, ↓reduceIte]
 repeat' (first
  | exact af_ _ _
  | (refine ae_ ?_; first | rfl | (simp only [bR_, *, Bool.and_true, Bool.true_and, Bool.and_false, Bool.false_and, Bool.or_true, Bool.true_or, Bool.or_false, Bool.false_or, Bool.not_true, Bool.not_false, decide_true, decide_false, Bool.and_self, Bool.or_self]; done) | (simp [bR_, *]; done))
  | simp (disch := omega) only [go_sem, ↓reduceIte]
  | (refine aa_.call (dC_ _ _) ?_)
  | (refine aa_.q (dC_ _ _) ?_)
  | ((first | (apply aF_; assumption) | (apply aE_; assumption) | (apply aN_; assumption) | (apply aO_; assumption)); intro hb; try simp only [hb])
  | ((first | apply ak_ | apply an_) <;> intro hb <;> (try simp only [hb]) <;> (first | have hp := aV_ hb | have hp := aU_ hb | have hp := aW_ hb | have hp := aX_ hb | skip)))
def ze_ : LC :=
 .seq (.ops [.ki 4 0]) (.seq (.seq (.ops [.m 6 0, .ll 7 6, .ki 8 0]) (.block 0 (.loop (.seq (.ops [.bb 9 .lss false 8 7]) (.seq (.cond (.tmp 9) .skip (.exit 0)) (.seq (.block 1 (.seq (.ops [.m 10 8, .m 5 10]) (.seq (.ops
 [.m 11 1, .m 12 0, .m 13 5, .ia 14 1 12 13, .ln 15 14, .s 16 (.callv (.tmp 11) [.tmp 15])]) (.cond (.tmp 16) (.seq (.ops [.m 17 5, .m 4 17]) .ret) .skip)))) (.ops [.bk 18 .add false 8 1, .m 8 18]))))))) (.seq (.ops [.s 4
 (.mov (.const (.int .i64 (-1))))]) .ret))
def wM_ : LF := ⟨2, 19, ze_, [.tmp 4]⟩
theorem BB_ : at_ Tryz.prog Tryz.f209 wM_ := ai_
theorem hp_ (xs : List ByteArray) (p : ByteArray → Bool) (g : Nat) (hx : xs.length ≤ 1048576) (hc : co_ Tryz.prog g = true) (hp : ∀ x ∈ xs, ∀ h, aa_ Tryz.prog g [.val (.string x)] h (.val (.bool (p x)))) (h : List Row) :
 aa_ Tryz.prog 209 [.list 0 1 (xs.map am_), .fn g [] []] h (.val (.int .i64 (b2_ p xs 0))) := by
 refine aj_ mixed Tryz.func209 BB_ rfl rfl ?_ h
 simp (disch := omega) only [wM_, ze_, go_sem, reduceCtorEq, Int.reduceNeg, ↓reduceIte]
 refine aL_ (fun n t h => ∃ k : Nat, t 0 = .list 0 1 (xs.map am_) ∧ t 1 = .fn g [] [] ∧ t 6 = .list 0 1 (xs.map am_) ∧ t 7 = .val (.int .i64 xs.length) ∧ t 8 = .val (.int .i64 k) ∧ n = xs.length - k ∧ k ≤ xs.length ∧ (b2_ p xs 0 = b2_ p (xs.drop k) k)) (xs.length) ?_ ?_
 ·exact ⟨0, rfl, rfl, rfl, rfl, rfl, rfl, Nat.zero_le _, rfl⟩
 ·rintro J hJ n t h ⟨k, t0, t1, t6, t7, k8, rfl, hk, hS⟩
  by_cases hlt : k < xs.length
  ·skip
   rw [gq_ p xs k hlt] at hS
   simp (disch := omega) only [t0, t1, t7, k8, hlt, hc, am_, go_sem, Nat.reduceEqDiff, reduceCtorEq, Int.reduceNeg, ↓reduceIte]
   repeat' (first
    | exact af_ _ _
    | exact ⟨xs.length - (k + 1), by omega, hJ _ _ _ ⟨k + 1, by simp [upd, t0], by simp [upd, t1], by simp [upd, t6], by simp [upd, t7], by simp [upd], rfl, by omega, by rw [hS]; simp [*]⟩⟩
    | (refine aG_ ?_; rw [hS]; simp [*]; done)
    | (refine aG_ ?_; rw [hS, eg_ _ _ _ (by omega)])
    | simp (disch := omega) only [k8, go_sem, Nat.reduceEqDiff, Int.reduceNeg, ↓reduceIte]
    | (refine aa_.call (hp xs[k] (getElem_mem hlt) _) ?_)
    | (refine aa_.q (hp xs[k] (getElem_mem hlt) _) ?_)
    | ((first | (apply aF_; assumption) | (apply aE_; assumption) | (apply aN_; assumption) | (apply aO_; assumption)); intro hb; try simp only [hb])
    | ((first | apply ak_ | apply an_) <;> intro hb <;> (try simp only [hb]) <;> (first | have hp := aV_ hb | have hp := aU_ hb | have hp := aW_ hb | have hp := aX_ hb | skip)))
  ·skip
   simp (disch := omega) only [t7, k8, hlt, go_sem, Int.reduceNeg, ↓reduceIte]
   repeat' (first
    | exact af_ _ _
    | (refine aG_ ?_; rw [hS]; simp [*]; done)
    | (refine aG_ ?_; rw [hS, eg_ _ _ _ (by omega)])
    | simp (disch := omega) only [t0, t1, t6, t7, k8, go_sem, Nat.reduceEqDiff, Nat.reduceAdd, Nat.reduceLeDiff, reduceCtorEq, Int.reduceLT, Int.reduceLE, Int.reduceNeg, Int.reduceSub, Int.reduceAdd, Int.reduceToNat, ↓reduceIte]
    | (refine aa_.call (hp xs[k] (getElem_mem hlt) _) ?_)
    | (refine aa_.q (hp xs[k] (getElem_mem hlt) _) ?_)
    | ((first | (apply aF_; assumption) | (apply aE_; assumption) | (apply aN_; assumption) | (apply aO_; assumption)); intro hb; try simp only [hb])
    | ((first | apply ak_ | apply an_) <;> intro hb <;> (try simp only [hb]) <;> (first | have hp := aV_ hb | have hp := aU_ hb | have hp := aW_ hb | have hp := aX_ hb | skip)))
def zI_ : LC :=
 .seq (.ops [.s 4 (.mov (.const (.bool false)))]) (.seq (.ops [.m 5 0, .m 6 1, .c2 7 209 5 6, .bk 8 .geq false 7 0, .m 4 8]) .ret)
def xG_ : LF := ⟨2, 9, zI_, [.tmp 4]⟩
theorem Bx_ : at_ Tryz.prog Tryz.f181 xG_ := ai_
theorem cu_ (xs : List ByteArray) (p : ByteArray → Bool) (g : Nat) (hx : xs.length ≤ 1048576) (hc : co_ Tryz.prog g = true) (hp : ∀ x ∈ xs, ∀ h, aa_ Tryz.prog g [.val (.string x)] h (.val (.bool (p x)))) (h : List Row) :
 aa_ Tryz.prog 181 [.list 0 1 (xs.map am_), .fn g [] []] h (.val (.bool (xs.any p))) := by
 refine aj_ mixed Tryz.func181 Bx_ rfl rfl ?_ h
 simp (disch := omega) only [xG_, zI_, go_sem, Nat.reduceEqDiff, reduceCtorEq, ↓reduceIte]
 refine aa_.call (hp_ xs p g hx hc hp _) ?_
 simp (disch := omega) only [go_sem, ↓reduceIte]
 exact ae_ (iP_ p xs)
def bh_ (xs : List ByteArray) : Bool := decide ((xs.length : Int) ≤ 4) && xs.all bR_
def Dj_ : LC :=
 .seq (.ops [.s 2 (.mov (.const (.bool false)))]) (.seq (.ops [.m 3 0, .c1 4 179 3, .nt 5 4, .m 2 5]) .ret)
def xU_ : LF := ⟨1, 6, Dj_, [.tmp 2]⟩
theorem Dg_ : at_ Tryz.prog Tryz.f182 xU_ := ai_
theorem hw_ (s : ByteArray)  (h : List Row) : aa_ Tryz.prog 182 [.val (.string s)] h (.val (.bool (!bR_ s))) := by
 refine aj_ mixed Tryz.func182 Dg_ rfl rfl ?_ h
 simp (disch := omega) only [xU_, Dj_, go_sem, reduceCtorEq, ↓reduceIte]
 repeat' (first
  | exact af_ _ _
  | simp (disch := omega) only [go_sem, ↓reduceIte]
  | (refine aa_.call (fO_ _ _) ?_)
  | (refine aa_.q (fO_ _ _) ?_)
  | ((first | (apply aF_; assumption) | (apply aE_; assumption) | (apply aN_; assumption) | (apply aO_; assumption)); intro hb; try simp only [hb])
  | ((first | apply ak_ | apply an_) <;> intro hb <;> (try simp only [hb]) <;> (first | have hp := aV_ hb | have hp := aU_ hb | have hp := aW_ hb | have hp := aX_ hb | skip)))
theorem nz_ {α : Type} (p : α → Bool) (xs : List α) : (!xs.any fun x => !p x) = xs.all p := by
 induction xs with
 | nil => rfl
 | cons x xs ih => simp only [any_cons, all_cons, Bool.not_or, Bool.not_not, ih]
def BS_ : LC :=
 .seq (.ops [.s 2 (.mov (.const (.bool false)))]) (.seq (.ops [.m 3 0, .ll 4 3, .bk 5 .leq false 4 4, .m 6 5, .g 7 6 true (.mov (.tmp 0)), .g 8 6 true (.call 181 [.tmp 7, .func 182]), .g 9 6 true (.un .not (.tmp 8)), .pf
 10 6 9, .m 2 10]) .ret)
def wQ_ : LF := ⟨1, 11, BS_, [.tmp 2]⟩
theorem Ae_ : at_ Tryz.prog Tryz.f143 wQ_ := ai_
theorem cc_ (xs : List ByteArray) (hx : xs.length ≤ 1048576) (h : List Row) : aa_ Tryz.prog 143 [.list 0 1 (xs.map am_)] h (.val (.bool (bh_ xs))) := by
 refine aj_ mixed Tryz.func143 Ae_ rfl rfl ?_ h
 simp (disch := omega) only [wQ_, BS_, go_sem, reduceCtorEq, ↓reduceIte]
 repeat' (first
  | exact af_ _ _
  | (refine ae_ ?_; simp only [nz_, bh_, *, Bool.true_and, Bool.false_and, decide_true, decide_false]; done)
  | (refine ae_ ?_; first | rfl | (simp only [bh_, *, Bool.and_true, Bool.true_and, Bool.and_false, Bool.false_and, Bool.or_true, Bool.true_or, Bool.or_false, Bool.false_or, Bool.not_true, Bool.not_false, decide_true, decide_false, Bool.and_self, Bool.or_self]; done) | (simp [bh_, *]; done))
  | simp (disch := omega) only [go_sem, Nat.reduceEqDiff, reduceCtorEq, ↓reduceIte]
  | (refine aa_.call (cu_ _ (fun s => !bR_ s) 182 hx (by kernel_rfl) (fun x _ h => hw_ x h) _) ?_)
  | (refine aa_.q (cu_ _ (fun s => !bR_ s) 182 hx (by kernel_rfl) (fun x _ h => hw_ x h) _) ?_)
  | ((first | (apply aS_; assumption) | (apply aT_; assumption) | (apply a8_; assumption) | (apply a9_; assumption)); intro hb; try simp only [hb])
  | ((first | (apply aF_; assumption) | (apply aE_; assumption) | (apply aN_; assumption) | (apply aO_; assumption)); intro hb; try simp only [hb])
  | ((first | apply az_ | apply aC_ | apply ak_ | apply an_) <;> intro hb <;> (try simp only [hb]) <;> (first | have hp := aV_ hb | have hp := aU_ hb | have hp := aW_ hb | have hp := aX_ hb | skip)))
def vr_ : LC :=
 .seq (.ops [.s 2 (.mov (.const (.bool false)))]) (.seq (.seq (.ops [.m 4 0, .ll 5 4, .bk 6 .gtr false 5 4]) (.cond (.tmp 6) (.seq (.ops [.s 2 (.mov (.const (.bool false)))]) .ret) .skip)) (.seq (.seq (.ops [.ki 3 0])
 (.block 0 (.loop (.seq (.seq (.ops [.m 7 3, .m 8 0, .ll 9 8, .bb 10 .lss false 7 9]) (.cond (.tmp 10) .skip (.exit 0))) (.seq (.block 1 (.seq (.ops [.m 13 0, .m 14 3, .ia 15 1 13 14, .ln 16 15, .c1 17 160 16, .nt 18 17])
 (.cond (.tmp 18) (.seq (.ops [.s 2 (.mov (.const (.bool false)))]) .ret) .skip))) (.ops [.m 11 3, .bk 12 .add false 11 1, .m 3 12])))))) (.seq (.ops [.s 2 (.mov (.const (.bool true)))]) .ret)))
def rF_ : LF := ⟨1, 19, vr_, [.tmp 2]⟩
theorem C7_ : at_ Tryz.prog Tryz.f162 rF_ := ai_
theorem d5_ (xs : List ByteArray) (hx : xs.length ≤ 1048576) (h : List Row) : aa_ Tryz.prog 162 [.list 0 1 (xs.map am_)] h (.val (.bool (bh_ xs))) := by
 refine aj_ mixed Tryz.func162 C7_ rfl rfl ?_ h
 by_cases h4 : (xs.length : Int) ≤ 4
 ·have h4' : ((4 : Int) < xs.length) = False := by simp; omega
  have hS0 : bh_ xs = xs.all bR_ := by simp [bh_, h4]
  simp (disch := omega) only [rF_, vr_, h4', go_sem, reduceCtorEq, ↓reduceIte]
  refine aL_ (fun n t h => ∃ k : Nat, t 0 = .list 0 1 (xs.map am_) ∧ t 3 = .val (.int .i64 k) ∧ n = xs.length - k ∧ k ≤ xs.length ∧ (xs.all bR_ = (xs.drop k).all bR_)) (xs.length) ?_ ?_
  ·exact ⟨0, rfl, rfl, rfl, Nat.zero_le _, rfl⟩
  ·rintro J hJ n t h ⟨k, t0, k3, rfl, hk, hS⟩
   by_cases hlt : k < xs.length
   ·skip
    rw [l3_ bR_ xs k hlt] at hS
    simp (disch := omega) only [t0, k3, hlt, am_, go_sem, Nat.reduceEqDiff, reduceCtorEq, ↓reduceIte]
    repeat' (first
     | exact af_ _ _
     | exact ⟨xs.length - (k + 1), by omega, hJ _ _ _ ⟨k + 1, by simp [upd, t0], by simp [upd], rfl, by omega, by rw [hS]; first | (simp only [*, Bool.true_and]; done) | simp [*]⟩⟩
     | (refine ae_ ?_; rw [hS0, hS]; first | (simp only [*, Bool.false_and]; done) | (simp [*]; done))
     | (refine ae_ ?_; rw [hS0, hS, hP_ _ _ _ (by omega)])
     | simp (disch := omega) only [k3, go_sem, Nat.reduceEqDiff, ↓reduceIte]
     | (refine aa_.call (dC_ _ _) ?_)
     | (refine aa_.q (dC_ _ _) ?_)
     | ((first | (apply aF_; assumption) | (apply aE_; assumption) | (apply aN_; assumption) | (apply aO_; assumption)); intro hb; try simp only [hb])
     | ((first | apply ak_ | apply an_) <;> intro hb <;> (try simp only [hb]) <;> (first | have hp := aV_ hb | have hp := aU_ hb | have hp := aW_ hb | have hp := aX_ hb | skip)))
   ·skip
    simp (disch := omega) only [t0, k3, hlt, go_sem, Nat.reduceEqDiff, reduceCtorEq, ↓reduceIte]
    repeat' (first
     | exact af_ _ _
     | (refine ae_ ?_; rw [hS0, hS]; first | (simp only [*, Bool.and_true, Bool.true_and, Bool.and_false, Bool.false_and, Bool.or_true, Bool.true_or, Bool.or_false, Bool.false_or, Bool.not_true, Bool.not_false, decide_true, decide_false, Bool.and_self, Bool.or_self]; done) | (simp [*]; done))
     | (refine ae_ ?_; rw [hS0, hS, hP_ _ _ _ (by omega)])
     | simp (disch := omega) only [t0, k3, go_sem, Nat.reduceEqDiff, Nat.reduceAdd, Nat.reduceLeDiff, reduceCtorEq, Int.reduceLT, Int.reduceLE, Int.reduceNeg, Int.reduceSub, Int.reduceAdd, Int.reduceToNat, ↓reduceIte]
     | (refine aa_.call (dC_ _ _) ?_)
     | (refine aa_.q (dC_ _ _) ?_)
     | ((first | (apply aF_; assumption) | (apply aE_; assumption) | (apply aN_; assumption) | (apply aO_; assumption)); intro hb; try simp only [hb])
     | ((first | apply ak_ | apply an_) <;> intro hb <;> (try simp only [hb]) <;> (first | have hp := aV_ hb | have hp := aU_ hb | have hp := aW_ hb | have hp := aX_ hb | skip)))
 ·have h4' : ((4 : Int) < xs.length) = True := by simp; omega
  simp (disch := omega) only [rF_, vr_, h4', go_sem, reduceCtorEq, ↓reduceIte]
  exact ae_ (by simp [bh_, h4])
def CV_ : LC :=
 .seq (.ops [.s 2 (.mov (.const (.bool false)))]) (.seq (.ops [.m 3 0, .c1 4 162 3, .m 2 4]) .ret)
def w2_ : LF := ⟨1, 5, CV_, [.tmp 2]⟩
theorem zA_ : at_ Tryz.prog Tryz.f125 w2_ := ai_
theorem bM_ (xs : List ByteArray) (hx : xs.length ≤ 1048576) (h : List Row) : aa_ Tryz.prog 125 [.list 0 1 (xs.map am_)] h (.val (.bool (bh_ xs))) := by
 refine aj_ mixed Tryz.func125 zA_ rfl rfl ?_ h
 simp (disch := omega) only [w2_, CV_, go_sem, reduceCtorEq, ↓reduceIte]
 repeat' (first
  | exact af_ _ _
  | simp (disch := omega) only [go_sem, ↓reduceIte]
  | (refine aa_.call (d5_ _ hx _) ?_)
  | (refine aa_.q (d5_ _ hx _) ?_)
  | ((first | (apply aF_; assumption) | (apply aE_; assumption) | (apply aN_; assumption) | (apply aO_; assumption)); intro hb; try simp only [hb])
  | ((first | apply ak_ | apply an_) <;> intro hb <;> (try simp only [hb]) <;> (first | have hp := aV_ hb | have hp := aU_ hb | have hp := aW_ hb | have hp := aX_ hb | skip)))
def dK_ : List Int → Nat → Bool
 | [], _ => true
 | b :: bs, k => (eb_ b || (decide (k = 0) && decide (b = 37)) || (!decide (k = 0) && gf_ b)) && dK_ bs (k + 1)
def bV_ (s : ByteArray) : Bool := decide (1 ≤ (s.size : Int)) && decide ((s.size : Int) ≤ 8) && dK_ (ea_ s) 0
theorem fV_ (bs : List Int) (k : Nat) (h : k < bs.length) : dK_ (bs.drop k) k = ((eb_ bs[k] || (decide (k = 0) && decide (bs[k] = 37)) || (!decide (k = 0) && gf_ bs[k])) && dK_ (bs.drop (k + 1)) (k + 1)) := by
 rw [drop_eq_getElem_cons h]; rfl
theorem gg_ (bs : List Int) (k : Nat) (h : bs.length ≤ k) : dK_ (bs.drop k) k = true := by
 rw [drop_eq_nil_of_le h]; rfl
def zy_ : LC :=
 .seq (.ops [.s 2 (.mov (.const (.bool false)))]) (.seq (.seq (.ops [.ki 3 0]) (.block 0 (.loop (.seq (.seq (.ops [.m 5 3, .m 6 0, .s 7 (.lenStr (.tmp 6)), .bb 8 .lss false 5 7]) (.cond (.tmp 8) .skip (.exit 0))) (.seq
 (.block 1 (.seq (.ops [.m 11 0, .m 12 3, .s 13 (.indexStr (.tmp 11) (.tmp 12)), .c1 14 175 13, .m 15 14, .g 16 15 false (.mov (.tmp 3)), .g 17 15 false (.bin .eql false (.tmp 16) (.const (.int .i64 0))), .g 18 15 false
 (.mov (.tmp 17)), .g 19 18 true (.mov (.tmp 0)), .g 20 18 true (.mov (.tmp 3)), .g 21 18 true (.indexStr (.tmp 19) (.tmp 20)), .g 22 18 true (.bin .eql false (.tmp 21) (.const (.int .u8 37))), .g 23 15 false (.pick (.tmp
 18) (.tmp 22) (.const (.bool false))), .pt 24 15 23, .m 4 24]) (.seq (.ops [.m 25 4, .nt 26 25, .m 27 26, .g 28 27 true (.mov (.tmp 3)), .g 29 27 true (.bin .eql false (.tmp 28) (.const (.int .i64 0))), .g 30 27 true
 (.mov (.tmp 29)), .g 31 30 false (.mov (.tmp 0)), .g 32 30 false (.mov (.tmp 3)), .g 33 30 false (.indexStr (.tmp 31) (.tmp 32)), .g 34 30 false (.call 176 [.tmp 33]), .g 35 30 false (.un .not (.tmp 34)), .g 36 27 true
 (.pick (.tmp 30) (.const (.bool true)) (.tmp 35)), .pf 37 27 36]) (.cond (.tmp 37) (.seq (.ops [.s 2 (.mov (.const (.bool false)))]) .ret) .skip)))) (.ops [.m 9 3, .bk 10 .add false 9 1, .m 3 10])))))) (.seq (.ops [.m 38
 0, .s 39 (.lenStr (.tmp 38)), .bk 40 .geq false 39 1, .m 41 40, .g 42 41 true (.mov (.tmp 0)), .g 43 41 true (.lenStr (.tmp 42)), .g 44 41 true (.bin .leq false (.tmp 43) (.const (.int .i64 8))), .pf 45 41 44, .m 2 45])
 .ret))
def xc_ : LF := ⟨1, 46, zy_, [.tmp 2]⟩
theorem Cf_ : at_ Tryz.prog Tryz.f140 xc_ := ai_
theorem dG_ (s : ByteArray) (hs : s.size ≤ 1048576) (h : List Row) : aa_ Tryz.prog 140 [.val (.string s)] h (.val (.bool (bV_ s))) := by
 refine aj_ mixed Tryz.func140 Cf_ rfl rfl ?_ h
 have hl := dg_ s
 simp (disch := omega) only [xc_, zy_, go_sem]
 refine aL_ (fun n t h => ∃ k : Nat, t 0 = .val (.string s) ∧ t 3 = .val (.int .i64 k) ∧ n = s.size - k ∧ k ≤ s.size ∧ (dK_ (ea_ s) 0 = dK_ ((ea_ s).drop k) k)) (s.size) ?_ ?_
 ·exact ⟨0, rfl, rfl, rfl, Nat.zero_le _, rfl⟩
 ·rintro J hJ n t h ⟨k, t0, k3, rfl, hk, hS⟩
  by_cases hlt : k < s.size
  ·skip
   rw [fV_ (ea_ s) k (by omega)] at hS
   simp (disch := omega) only [t0, k3, hlt, go_sem, Nat.reduceEqDiff, reduceCtorEq, ↓reduceIte]
   repeat' (first
    | exact af_ _ _
    | exact ⟨s.size - (k + 1), by omega, hJ _ _ _ ⟨k + 1, by simp [upd, t0], by simp [upd], rfl, by omega, by rw [hS]; first | (simp only [*, Bool.true_and, Bool.false_and, Bool.or_true, Bool.true_or, Bool.or_false, Bool.not_true, Bool.not_false, Bool.and_self, Bool.or_self]; done) | simp [*]⟩⟩
    | (refine ae_ ?_; simp only [bV_]; rw [hS]; first | (simp only [*, Bool.and_false, Bool.false_and, Bool.not_true, Bool.not_false, Bool.or_self]; done) | (simp [*]; done))
    | (refine ae_ ?_; rw [gg_ _ _ (by omega)] at hS; simp only [bV_]; rw [hS]; first | (simp only [*, Bool.and_true, Bool.true_and, Bool.and_false, Bool.false_and, Bool.or_true, Bool.true_or, Bool.or_false, Bool.false_or, Bool.not_true, Bool.not_false, decide_true, decide_false, Bool.and_self, Bool.or_self]; done) | (simp [*]; done))
    | simp (disch := omega) only [t0, k3, go_sem, Nat.reduceEqDiff, reduceCtorEq, ↓reduceIte]
    | (refine aa_.call (eK_ _ _) ?_)
    | (refine aa_.q (eK_ _ _) ?_)
    | (refine aa_.call (eW_ _ _) ?_)
    | (refine aa_.q (eW_ _ _) ?_)
    | ((first | (apply aS_; assumption) | (apply aT_; assumption) | (apply a8_; assumption) | (apply a9_; assumption)); intro hb; try simp only [hb])
    | ((first | (apply aF_; assumption) | (apply aE_; assumption) | (apply aN_; assumption) | (apply aO_; assumption)); intro hb; try simp only [hb])
    | ((first | apply az_ | apply aC_ | apply ak_ | apply an_) <;> intro hb <;> (try simp only [hb]) <;> (first | have hp := aV_ hb | have hp := aU_ hb | have hp := aW_ hb | have hp := aX_ hb | skip)))
  ·skip
   simp (disch := omega) only [t0, k3, hlt, go_sem, Nat.reduceEqDiff, reduceCtorEq, ↓reduceIte]
   repeat' (first
    | exact af_ _ _
    | (refine ae_ ?_; simp only [bV_]; rw [hS]; first | (simp only [*, Bool.true_and, Bool.false_and, decide_true, decide_false]; done) | (simp [*]; done))
    | (refine ae_ ?_; rw [gg_ _ _ (by omega)] at hS; simp only [bV_]; rw [hS]; first | (simp only [*, Bool.and_true, Bool.true_and, decide_true]; done) | (simp [*]; done))
    | simp (disch := omega) only [t0, go_sem, Nat.reduceEqDiff, reduceCtorEq, ↓reduceIte]
    | (refine aa_.call (eK_ _ _) ?_)
    | (refine aa_.q (eK_ _ _) ?_)
    | (refine aa_.call (eW_ _ _) ?_)
    | (refine aa_.q (eW_ _ _) ?_)
    | ((first | (apply aS_; assumption) | (apply aT_; assumption) | (apply a8_; assumption) | (apply a9_; assumption)); intro hb; try simp only [hb])
    | ((first | (apply aF_; assumption) | (apply aE_; assumption) | (apply aN_; assumption) | (apply aO_; assumption)); intro hb; try simp only [hb])
    | ((first | apply az_ | apply aC_ | apply ak_ | apply an_) <;> intro hb <;> (try simp only [hb]) <;> (first | have hp := aV_ hb | have hp := aU_ hb | have hp := aW_ hb | have hp := aX_ hb | skip)))
theorem sV_ {s : ByteArray} (h3 : 0 < s.size) (h4 : eb_ ((ea_ s)[0]'(by rw [dg_]; exact h3)) = false) (h5 : decide (((ea_ s)[0]'(by rw [dg_]; exact h3)) = 37) = false) : bV_ s = false := by
 have h6 := fV_ (ea_ s) 0 (by rw [dg_]; exact h3)
 rw [drop_zero] at h6
 simp only [bV_, h6, h4, h5]; simp
theorem ql_ {s : ByteArray} (h1 : decide ((s.size : Int) < 1) = false) (h2 : decide (8 < (s.size : Int)) = false) (h3 : 0 < s.size) (h4 : eb_ ((ea_ s)[0]'(by rw [dg_]; exact h3)) = true ∨ ((ea_ s)[0]'(by rw [dg_]; exact h3)) = 37) : bV_ s = dK_ ((ea_ s).drop 1) 1 := by
 have h5 := fV_ (ea_ s) 0 (by rw [dg_]; exact h3)
 rw [drop_zero] at h5
 have h6 := of_decide_eq_false h1
 have h7 := of_decide_eq_false h2
 have e1 : decide (1 ≤ (s.size : Int)) = true := by simp; omega
 have e2 : decide ((s.size : Int) ≤ 8) = true := by simp; omega
 simp only [bV_, e1, e2, h5, Bool.true_and]
 rcases h4 with h4 | h4 <;> simp [h4]
def rU_ : LC :=
 .seq (.ops [.s 2 (.mov (.const (.bool false)))]) (.seq (.seq (.ops [.m 4 0, .s 5 (.lenStr (.tmp 4)), .bk 6 .lss false 5 1, .m 7 6, .g 8 7 false (.mov (.tmp 0)), .g 9 7 false (.lenStr (.tmp 8)), .g 10 7 false (.bin .gtr
 false (.tmp 9) (.const (.int .i64 8))), .pt 11 7 10, .m 12 11, .g 13 12 false (.mov (.tmp 0)), .g 14 12 false (.indexStr (.tmp 13) (.const (.int .i64 0))), .g 15 12 false (.call 219 [.tmp 14]), .g 16 12 false (.un .not
 (.tmp 15)), .g 17 12 false (.mov (.tmp 16)), .g 18 17 true (.mov (.tmp 0)), .g 19 17 true (.indexStr (.tmp 18) (.const (.int .i64 0))), .g 20 17 true (.bin .neq false (.tmp 19) (.const (.int .u8 37))), .g 21 12 false
 (.pick (.tmp 17) (.tmp 20) (.const (.bool false))), .pt 22 12 21]) (.cond (.tmp 22) (.seq (.ops [.s 2 (.mov (.const (.bool false)))]) .ret) .skip)) (.seq (.seq (.ops [.ki 3 1]) (.block 0 (.loop (.seq (.seq (.ops [.m 23
 3, .m 24 0, .s 25 (.lenStr (.tmp 24)), .bb 26 .lss false 23 25]) (.cond (.tmp 26) .skip (.exit 0))) (.seq (.block 1 (.seq (.ops [.m 29 0, .m 30 3, .s 31 (.indexStr (.tmp 29) (.tmp 30)), .c1 32 219 31, .nt 33 32, .m 34
 33, .g 35 34 true (.mov (.tmp 0)), .g 36 34 true (.mov (.tmp 3)), .g 37 34 true (.indexStr (.tmp 35) (.tmp 36)), .g 38 34 true (.call 220 [.tmp 37]), .g 39 34 true (.un .not (.tmp 38)), .pf 40 34 39]) (.cond (.tmp 40)
 (.seq (.ops [.s 2 (.mov (.const (.bool false)))]) .ret) .skip))) (.ops [.m 27 3, .bk 28 .add false 27 1, .m 3 28])))))) (.seq (.ops [.s 2 (.mov (.const (.bool true)))]) .ret)))
def oY_ : LF := ⟨1, 41, rU_, [.tmp 2]⟩
theorem B6_ : at_ Tryz.prog Tryz.f193 oY_ := ai_
theorem iz_ (s : ByteArray) (hs : s.size ≤ 1048576) (h : List Row) : aa_ Tryz.prog 193 [.val (.string s)] h (.val (.bool (bV_ s))) := by
 refine aj_ mixed Tryz.func193 B6_ rfl rfl ?_ h
 have hl := dg_ s
 by_cases h0 : (s.size : Int) < 1
 ·simp (disch := omega) only [oY_, rU_, h0, go_sem, Nat.reduceEqDiff, reduceCtorEq, ↓reduceIte]
  have h9 : ¬ (1 ≤ (s.size : Int)) := by omega
  exact ae_ (by simp [bV_, h9])
 by_cases h8 : 8 < (s.size : Int)
 ·simp (disch := omega) only [oY_, rU_, h0, h8, go_sem, Nat.reduceEqDiff, reduceCtorEq, ↓reduceIte]
  have h9 : ¬ ((s.size : Int) ≤ 8) := by omega
  exact ae_ (by simp [bV_, h9])
 have hpos : 0 < s.size := by omega
 have hle : (ea_ s)[0]? = some ((ea_ s)[0]'(by omega)) := getElem?_eq_getElem (by omega)
 simp (disch := omega) only [oY_, rU_, h0, h8, go_sem, Nat.reduceEqDiff, reduceCtorEq, Int.reduceLE, ↓reduceIte]
 repeat' (first
  | exact af_ _ _
  | (refine ae_ ?_; apply Eq.symm; apply sV_ hpos <;> assumption)
  | (
   have hS0 : bV_ s = dK_ ((ea_ s).drop 1) 1 := ql_ (by simp; omega) (by simp; omega) hpos (by simp_all)
   refine aL_ (fun n t h => ∃ k : Nat, t 0 = .val (.string s) ∧ t 3 = .val (.int .i64 k) ∧ n = s.size - k ∧ k ≤ s.size ∧ (dK_ ((ea_ s).drop 1) 1 = dK_ ((ea_ s).drop k) k ∧ 1 ≤ k)) (s.size - 1) ?_ ?_
   ·exact ⟨1, rfl, rfl, rfl, by omega, ⟨rfl, Nat.le_refl _⟩⟩
   ·rintro J hJ n t h ⟨k, t0, k3, rfl, hk, hS⟩
    by_cases hlt : k < s.size
    ·skip
     obtain ⟨hS, hk1⟩ := hS
     rw [fV_ (ea_ s) k (by omega)] at hS
     have hk0 : decide (k = 0) = false := by simp; omega
     simp only [hk0, Bool.false_and, Bool.or_false, Bool.not_false, Bool.true_and] at hS
     simp (disch := omega) only [t0, k3, hlt, go_sem, Nat.reduceEqDiff, reduceCtorEq, ↓reduceIte]
     repeat' (first
      | exact af_ _ _
      | exact ⟨s.size - (k + 1), by omega, hJ _ _ _ ⟨k + 1, by simp [upd, t0], by simp [upd], rfl, by omega, by refine ⟨?_, by omega⟩; rw [hS]; first | (simp only [*, Bool.true_and, Bool.or_true, Bool.true_or]; done) | simp [*]⟩⟩
      | (refine ae_ ?_; rw [hS0, hS]; first | (simp only [*, Bool.false_and, Bool.or_self]; done) | (simp [*]; done))
      | (refine ae_ ?_; rw [hS0, hS.1, gg_ _ _ (by omega)])
      | simp (disch := omega) only [t0, k3, go_sem, Nat.reduceEqDiff, reduceCtorEq, ↓reduceIte]
      | (refine aa_.call (c0_ _ _) ?_)
      | (refine aa_.q (c0_ _ _) ?_)
      | (refine aa_.call (en_ _ _) ?_)
      | (refine aa_.q (en_ _ _) ?_)
      | ((first | (apply aS_; assumption) | (apply aT_; assumption) | (apply a8_; assumption) | (apply a9_; assumption)); intro hb; try simp only [hb])
      | ((first | (apply aF_; assumption) | (apply aE_; assumption) | (apply aN_; assumption) | (apply aO_; assumption)); intro hb; try simp only [hb])
      | ((first | apply az_ | apply aC_ | apply ak_ | apply an_) <;> intro hb <;> (try simp only [hb]) <;> (first | have hp := aV_ hb | have hp := aU_ hb | have hp := aW_ hb | have hp := aX_ hb | skip)))
    ·skip
     simp (disch := omega) only [t0, k3, hlt, go_sem, Nat.reduceEqDiff, reduceCtorEq, ↓reduceIte]
     repeat' (first
      | exact af_ _ _
      | (refine ae_ ?_; rw [hS0, hS]; first | (simp only [*, Bool.and_true, Bool.true_and, Bool.and_false, Bool.false_and, Bool.or_true, Bool.true_or, Bool.or_false, Bool.false_or, Bool.not_true, Bool.not_false, decide_true, decide_false, Bool.and_self, Bool.or_self]; done) | (simp [*]; done))
      | (refine ae_ ?_; rw [hS0, hS.1, gg_ _ _ (by omega)])
      | simp (disch := omega) only [t0, k3, go_sem, Nat.reduceEqDiff, Nat.reduceAdd, Nat.reduceLeDiff, reduceCtorEq, Int.reduceLT, Int.reduceLE, Int.reduceNeg, Int.reduceSub, Int.reduceAdd, Int.reduceToNat, ↓reduceIte]
      | (refine aa_.call (c0_ _ _) ?_)
      | (refine aa_.q (c0_ _ _) ?_)
      | (refine aa_.call (en_ _ _) ?_)
      | (refine aa_.q (en_ _ _) ?_)
      | ((first | (apply aS_; assumption) | (apply aT_; assumption) | (apply a8_; assumption) | (apply a9_; assumption)); intro hb; try simp only [hb])
      | ((first | (apply aF_; assumption) | (apply aE_; assumption) | (apply aN_; assumption) | (apply aO_; assumption)); intro hb; try simp only [hb])
      | ((first | apply az_ | apply aC_ | apply ak_ | apply an_) <;> intro hb <;> (try simp only [hb]) <;> (first | have hp := aV_ hb | have hp := aU_ hb | have hp := aW_ hb | have hp := aX_ hb | skip))))
  | simp (disch := omega) only [go_sem, Nat.reduceEqDiff, reduceCtorEq, Int.reduceLE, ↓reduceIte]
  | (refine aa_.call (c0_ _ _) ?_)
  | (refine aa_.q (c0_ _ _) ?_)
  | ((first | (apply aS_; assumption) | (apply aT_; assumption) | (apply a8_; assumption) | (apply a9_; assumption)); intro hb; try simp only [hb])
  | ((first | (apply aF_; assumption) | (apply aE_; assumption) | (apply aN_; assumption) | (apply aO_; assumption)); intro hb; try simp only [hb])
  | ((first | apply az_ | apply aC_ | apply ak_ | apply an_) <;> intro hb <;> (try simp only [hb]) <;> (first | have hp := aV_ hb | have hp := aU_ hb | have hp := aW_ hb | have hp := aX_ hb | skip)))
theorem fh_ {α β : Type} (f : α → β) (xs : List α) (n : Nat) : List.take n (List.map f xs) = List.map f (List.take n xs) := map_take.symm
theorem mk_ (a b : ByteArray) : eqS a b = eqS b a := by simp only [eqS]; by_cases h : a = b <;> simp [h]; exact fun e => h e.symm
theorem il_ {α : Type} (p : α → α → Bool) (hp : ∀ a b, p a b = p b a) : ∀ xs ys : List α, eT_ p xs ys = eT_ p ys xs
 | [], [] => rfl
 | [], _ :: _ => rfl
 | _ :: _, [] => rfl
 | x :: xs, y :: ys => by simp only [eT_, hp x y, il_ p hp xs ys]
def vK_ : LC :=
 .seq (.ops [.s 4 (.mov (.const (.bool false)))]) (.seq (.ops [.m 5 0, .ll 6 5, .m 7 1, .ll 8 7, .bb 9 .geq false 6 8, .m 10 9, .g 11 10 true (.mov (.tmp 0)), .g 12 10 true (.mov (.tmp 1)), .g 13 10 true (.lenSl (.tmp
 12)), .g 14 10 true (.sliceSl 1 (.tmp 11) none (some (.tmp 13))), .g 15 10 true (.mov (.tmp 1)), .g 16 10 true (.call 147 [.tmp 14, .tmp 15]), .pf 17 10 16, .m 4 17]) .ret)
def r1_ : LF := ⟨2, 18, vK_, [.tmp 4]⟩
theorem zL_ : at_ Tryz.prog Tryz.f215 r1_ := ai_
theorem i5_ (a b : List ByteArray) (ha : a.length ≤ 1048576) (h : List Row) : aa_ Tryz.prog 215 [.list 0 1 (a.map am_), .list 0 1 (b.map am_)] h (.val (.bool (cW_ b a))) := by
 refine aj_ mixed Tryz.func215 zL_ rfl rfl ?_ h
 by_cases hl : b.length ≤ a.length
 ·have hl' : ((b.length : Int) ≤ (a.length : Int)) := by omega
  simp (disch := omega) only [r1_, vK_, hl', hl, bG_, fh_, go_sem, Nat.reduceEqDiff, reduceCtorEq, ↓reduceIte]
  refine aa_.call (de_ (a.take b.length) b (by rw [length_take]; omega) _) ?_
  simp (disch := omega) only [go_sem, Nat.reduceEqDiff, ↓reduceIte]
  exact ae_ (by simp only [cW_, hl, bm_, decide_true, Bool.true_and]; exact il_ _ mk_ _ _)
 ·have hl' : ¬ ((b.length : Int) ≤ (a.length : Int)) := by omega
  simp (disch := omega) only [r1_, vK_, hl', go_sem, Nat.reduceEqDiff, reduceCtorEq, ↓reduceIte]
  exact ae_ (by simp [cW_, hl])
def way (n : ByteArray) (s : List ByteArray) (o : ByteArray) (os : List ByteArray) : Bool := decide (n = o) && (cW_ s os || cW_ os s)
def C1_ : LC :=
 .seq (.ops [.s 2 (.mov (.const (.bool false)))]) (.seq (.ops [.m 3 0, .c1 4 193 3, .m 2 4]) .ret)
def wu_ : LF := ⟨1, 5, C1_, [.tmp 2]⟩
theorem Ap_ : at_ Tryz.prog Tryz.f158 wu_ := ai_
theorem bO_ (s : ByteArray) (hs : s.size ≤ 1048576) (h : List Row) : aa_ Tryz.prog 158 [.val (.string s)] h (.val (.bool (bV_ s))) := by
 refine aj_ mixed Tryz.func158 Ap_ rfl rfl ?_ h
 simp (disch := omega) only [wu_, C1_, go_sem, reduceCtorEq, ↓reduceIte]
 repeat' (first
  | exact af_ _ _
  | simp (disch := omega) only [go_sem, ↓reduceIte]
  | (refine aa_.call (iz_ _ hs _) ?_)
  | (refine aa_.q (iz_ _ hs _) ?_)
  | ((first | (apply aF_; assumption) | (apply aE_; assumption) | (apply aN_; assumption) | (apply aO_; assumption)); intro hb; try simp only [hb])
  | ((first | apply ak_ | apply an_) <;> intro hb <;> (try simp only [hb]) <;> (first | have hp := aV_ hb | have hp := aU_ hb | have hp := aW_ hb | have hp := aX_ hb | skip)))
end Go.Proofs.YtfplhbjggecnpaaGreatDoor
namespace Go.AW
open List
set_option linter.unusedVariables false
set_option linter.unusedSimpArgs false
open Go.RowKit (Below)
abbrev Bd := Option (Nat × List UInt8)
def rQ_ (T e : TypeId) (B : Nat) (w : World) : Bd → Prop
 | none => True
 | some (b, bs) => Lib.IsBuilderF T e B b (Lib.byteCells bs) w
structure c4_ (P : Program) (T e : TypeId) (S : Sit) (B : Nat) (σ : Bd) (w : World) : Prop where
 rows : S.rows = []
 imm : ∀ k c, S.imm k = some c → k < B ∧ ∃ E fr, w.heap[k]? = some (.cells c E fr)
 size : B ≤ w.heap.size
 glob : dP_ P S
 bd : rQ_ T e B w σ
section
variable {P : Program} {T e : TypeId} {S : Sit} {B : Nat} {σ : Bd} {w w' : World}
theorem c4_.models (d : c4_ P T e S B σ w) : al_ S [] w := ⟨fun b c h => (d.imm b c h).2, by simp [d.rows], by simp [d.rows], by simp [d.rows]⟩
theorem Below.less {B' : Nat} (h : Below B w w') (hb : B' ≤ B) : Below B' w w' := ⟨h.os, h.tape, h.output, h.size, fun k hk => h.block k (by omega)⟩
theorem c4_.turn {σ' : Bd} (d : c4_ P T e S B σ w) (b : Below B w w') (h : rQ_ T e B w' σ') : c4_ P T e S B σ' w' :=
 ⟨d.rows, fun k c q => ⟨(d.imm k c q).1, by rw [b.block k (d.imm k c q).1]; exact (d.imm k c q).2⟩, Nat.le_trans d.size b.size, d.glob, h⟩
theorem pi_ {b : Nat} {p : Value} {bs : List Value} (h : Lib.BuilderAtF T e B b p bs w) (k : Below w.heap.size w w') : Lib.BuilderAtF T e B b p bs w' := by
 have hlt := h.lt
 obtain ⟨hB, v, hb, ⟨h1, h2⟩, hne⟩ := h
 refine ⟨hB, v, by rw [k.block b hlt]; exact hb, ⟨h1, ?_⟩, hne⟩
 rcases h2 with h2 | ⟨g, cap, cur, fz, e1, e2, e3, rest⟩
 ·exact .inl h2
 ·have : g < w.heap.size := (Array.getElem?_eq_some_iff.1 e3).1
  exact .inr ⟨g, cap, cur, fz, e1, e2, by rw [k.block g this]; exact e3, rest⟩
theorem t4_ : ∀ {σ : Bd}, rQ_ T e B w σ → Below w.heap.size w w' → rQ_ T e B w' σ
 | none, _, _ => trivial
 | some (b, bs), h, k => h.elim (fun x => .inl (pi_ x k)) (fun x => .inr (pi_ x k))
theorem c4_.keep (d : c4_ P T e S B σ w) (k : Below w.heap.size w w') : c4_ P T e S B σ w' := d.turn (Below.less k d.size) (t4_ d.bd k)
end
def gz_ (P : Program) (T e : TypeId) (f : FuncId) (args : List AV) (σ : Bd) (K : AV → Bd → Prop) : Prop :=
 ∀ (S : Sit) (B : Nat) (w : World) (vals : Array Value), c4_ P T e S B σ w → as_ S args vals.toList →
  Calls P f vals w fun en w' => ∃ v av σ', en = .returned v ∧ Below B w w' ∧ c4_ P T e S B σ' w' ∧ Rep S av v ∧ K av σ'
theorem aa_.b {P : Program} {T e : TypeId} {f : FuncId} {args : List AV} {σ : Bd} {r : AV} (hs : r.solid = true) (hc : aa_ P f args [] r) {K : AV → Bd → Prop} (hk : K r σ) : gz_ P T e f args σ K := by
 intro S B w vals d hr
 refine (hc (fun q _ => q = r) rfl S w vals d.models d.glob hr).mono ?_
 rintro en w' ⟨v, av, S', h', rfl, st, hm', rv, rfl⟩
 have bel : Below w.heap.size w w' := ⟨st.os, st.tape, st.output, st.size, fun k hk => st.block k hk (by rintro ⟨l, i, q, _⟩; simp [d.rows] at q)⟩
 exact ⟨v, _, σ, rfl, Below.less bel d.size, d.keep bel, in_ hs rv, hk⟩
def pW_ : Value := .agg #[.pointer none, .slice none 0 0]
def g1_ (P : Program) (T e : TypeId) (t : Nat → AV) (σ : Bd) (K : AV → Bd → Prop) : LOp → Prop
 | .alloc E z => E = T ∧ z = pW_ ∧ σ = none ∧ ∀ b, K (.val (.pointer (some ⟨b, 0, none⟩))) (some (b, []))
 | .call f args => gz_ P T e f (args.map (ay_ t)) σ K
 | op => match au_ t [] op with
  | some v => K v σ
  | none => False
def ju_ (P : Program) (T e : TypeId) : List LI → (Nat → AV) → Bd → ((Nat → AV) → Bd → Prop) → Prop
 | [], t, σ, K => K t σ
 | i :: rest, t, σ, K =>
  match cD_ t i.guard with
  | some true => g1_ P T e t σ (fun v σ' => ju_ P T e rest (put t i.dst v) σ' K) i.op
  | some false => ju_ P T e rest (put t i.dst (.val Go.undef)) σ K
  | none => False
def ey_ (P : Program) (T e : TypeId) (σ : Bd) (t : Nat → AV) (K : AV → Prop) : LOp → Prop
 | .call f args => ∃ r, gz_ P T e f (args.map (ay_ t)) σ (fun v σ' => v = r ∧ σ' = σ) ∧ K r
 | op => match au_ t [] op with
  | some v => K v
  | none => False
def g6_ (P : Program) (T e : TypeId) (σ : Bd) : List LI → (Nat → AV) → ((Nat → AV) → Prop) → Prop
 | [], t, K => K t
 | i :: rest, t, K =>
  match cD_ t i.guard with
  | some true => ey_ P T e σ t (fun v => g6_ P T e σ rest (put t i.dst v) K) i.op
  | some false => g6_ P T e σ rest (put t i.dst (.val Go.undef)) K
  | none => False
theorem sr_ {P : Program} {T e : TypeId} {σ : Bd} {t t' : Nat → AV} {K : AV → Prop} (op : LOp) (he : ∀ x ∈ op.operands, ay_ t x = ay_ t' x) (q : ey_ P T e σ t K op) : ey_ P T e σ t' K op := by
 cases op with
 | call f args =>
  simp only [ey_] at q ⊢
  rw [← map_congr_left (l := args) (fun x hx => he x (by simpa [LOp.operands] using hx))]; exact q
 | _ =>
  simp only [ey_] at q ⊢
  rw [← e8_ _ he]; exact q
theorem sP_ {P : Program} {T e : TypeId} {σ : Bd} {t : Nat → AV} {K : AV → Prop} {op : LOp} (q : ey_ P T e σ t K op) : ∃ v, ey_ P T e σ t (fun u => u = v) op ∧ K v := by
 cases op with
 | call f args =>
  simp only [ey_] at q ⊢
  obtain ⟨r, h1, h2⟩ := q
  exact ⟨r, ⟨r, h1, rfl⟩, h2⟩
 | _ =>
  simp only [ey_] at q ⊢
  split at q
  ·rename_i v _
   exact ⟨v, rfl, q⟩
  ·exact q.elim
theorem nQ_ {P : Program} {T e : TypeId} {σ : Bd} {K : (Nat → AV) → Prop} : ∀ (n : Nat) (l : List LI) (i : Nat) (t0 : Nat → AV) (vs0 : Nat → AV), n + i = l.length → g6_ P T e σ (l.drop i) (tAt l t0 vs0 i) K →
 ∃ vs : Nat → AV, (∀ k, k < i → vs k = vs0 k) ∧ K (tAt l t0 vs l.length) ∧ ∀ k x, i ≤ k → l[k]? = some x →
  match cD_ (tAt l t0 vs k) x.guard with
  | some true => ey_ P T e σ (tAt l t0 vs k) (fun v => v = vs k) x.op
  | some false => vs k = .val Go.undef
  | none => False
 | 0, l, i, t0, vs0, hn, ha => by
  have : l.drop i = [] := drop_eq_nil_of_le (by omega)
  rw [this] at ha
  refine ⟨vs0, fun _ _ => rfl, ?_, fun k x hk hx => ?_⟩
  ·have : i = l.length := by omega
   subst this; exact ha
  ·have : k < l.length := by rcases List.getElem?_eq_some_iff.1 hx with ⟨q, _⟩; exact q
   omega
 | n + 1, l, i, t0, vs0, hn, ha => by
  have hi : i < l.length := by omega
  have hd : l.drop i = l[i] :: l.drop (i + 1) := drop_eq_getElem_cons hi
  rw [hd] at ha
  have tcongr : ∀ (vs vs' : Nat → AV) (j : Nat), (∀ k, k < j → vs k = vs' k) → tAt l t0 vs j = tAt l t0 vs' j := by
   intro vs vs' j
   induction j with
   | zero => intro _; rfl
   | succ j ih =>
    intro hk
    simp only [tAt]
    rw [ih (fun k hk' => hk k (by omega)), hk j (by omega)]
  have key : ∀ v, g6_ P T e σ (l.drop (i + 1)) (put (tAt l t0 vs0 i) l[i].dst v) K → (match cD_ (tAt l t0 vs0 i) l[i].guard with
   | some true => ey_ P T e σ (tAt l t0 vs0 i) (fun u => u = v) l[i].op
   | some false => v = .val Go.undef
   | none => False) → ∃ vs : Nat → AV, (∀ k, k < i → vs k = vs0 k) ∧ K (tAt l t0 vs l.length) ∧ ∀ k x, i ≤ k → l[k]? = some x →
   match cD_ (tAt l t0 vs k) x.guard with
   | some true => ey_ P T e σ (tAt l t0 vs k) (fun v => v = vs k) x.op
   | some false => vs k = .val Go.undef
   | none => False := by
   intro v hv hm
   have e1 : tAt l t0 (fun k => if k = i then v else vs0 k) i = tAt l t0 vs0 i := tcongr _ _ i (fun k hk => by simp [Nat.ne_of_lt hk])
   have hstep : tAt l t0 (fun k => if k = i then v else vs0 k) (i + 1) = put (tAt l t0 vs0 i) l[i].dst v := by
    simp only [tAt, getElem?_eq_getElem hi, e1]
    simp
   obtain ⟨vs, h1, h2, h3⟩ := nQ_ n l (i + 1) t0 (fun k => if k = i then v else vs0 k) (by omega) (by rw [hstep]; exact hv)
   refine ⟨vs, fun k hk => by rw [h1 k (by omega)]; simp [Nat.ne_of_lt hk], h2, fun k x hk hx => ?_⟩
   by_cases hki : k = i
   ·subst hki
    rw [getElem?_eq_getElem hi] at hx
    simp at hx; subst hx
    have e2 : tAt l t0 vs k = tAt l t0 vs0 k := tcongr _ _ k (fun j hj => by rw [h1 j (by omega)]; simp [Nat.ne_of_lt hj])
    have e3 : vs k = v := by rw [h1 k (by omega)]; simp
    rw [e2, e3]; exact hm
   ·exact h3 k x (by omega) hx
  simp only [g6_] at ha
  split at ha
  ·rename_i hw
   obtain ⟨v, hv1, hv2⟩ := sP_ ha
   exact key v hv2 (by rw [hw]; exact hv1)
  ·rename_i hw
   exact key _ ha (by rw [hw])
  ·exact ha.elim
abbrev eo_ := LE → (Nat → AV) → Bd → Prop
def bwp (P : Program) (T e : TypeId) : LC → eo_ → (Nat → AV) → Bd → Prop
 | .skip, Q, t, σ => Q .normal t σ
 | .ops l, Q, t, σ => ju_ P T e l t σ (Q .normal)
 | .dops l, Q, t, σ => g6_ P T e σ l t (fun t' => Q .normal t' σ)
 | .gops _ _, _, _, _ => False
 | .seq a b, Q, t, σ => bwp P T e a (fun en t σ => match en with | .normal => bwp P T e b Q t σ | en => Q en t σ) t σ
 | .cond c a b, Q, t, σ =>
  match ay_ t c with
  | .val (.bool q) => (q = true → bwp P T e a Q t σ) ∧ (q = false → bwp P T e b Q t σ)
  | _ => False
 | .block id b, Q, t, σ => bwp P T e b (fun en t σ => match en with | .exit k => if k = id then Q .normal t σ else Q (.exit k) t σ | en => Q en t σ) t σ
 | .loop b, Q, t, σ => ∃ (I : Nat → (Nat → AV) → Bd → Prop) (n : Nat), I n t σ ∧ ∀ n t σ, I n t σ → bwp P T e b (fun en t' σ' => match en with | .normal => ∃ m, m < n ∧ I m t' σ' | en => Q en t' σ') t σ
 | .exit id, Q, t, σ => Q (.exit id) t σ
 | .ret, Q, t, σ => Q .ret t σ
 | .ghost _, _, _, _ => False
section
variable {P : Program} {T e : TypeId} {N : Nat} {pf : Bool}
theorem n4_ {S : Sit} {B : Nat} {σ : Bd} {w : World} {t : Nat → AV} {a : Act} {o : Oper} {lo : LOp} {K : AV → Bd → Prop} {next : Act → World → Prop} {Q : Exit → Act → World → Prop} (hTe : T ≠ e)
 (hlow : aM_ P o.op = some lo) (hok : hN_ N lo = true) (d : c4_ P T e S B σ w) (hr : Rel S N t a) (hw : g1_ P T e t σ K lo)
 (hh : ∀ v av σ' w', Below B w w' → c4_ P T e S B σ' w' → Rep S av v → K av σ' → next (a.put o.dst v) w') : o.wp P a w next Q := by
 have gen : (match au_ t [] lo with | some v => K v σ | none => False) → o.wp P a w next Q := by
  intro hq
  cases hv : au_ t [] lo with
  | none => rw [hv] at hq; exact hq.elim
  | some av =>
   rw [hv] at hq
   obtain ⟨v, h1, h2⟩ := mx_ hlow hok d.models hr hv
   unfold Oper.wp
   rw [h1]
   exact hh v av σ w (Below.refl B w) d h2 hq
 cases lo with
 | alloc E z =>
  simp only [g1_] at hw
  obtain ⟨rfl, rfl, rfl, hk⟩ := hw
  have hop : ∃ i, o.op = .alloc E ∧ P.info? E = some i ∧ i.zero = some pW_ := by
   cases hop : o.op with
   | alloc E' =>
    simp only [hop, aM_, Option.bind_eq_some_iff, Option.map_eq_some_iff] at hlow
    obtain ⟨i, h1, z, h2, e⟩ := hlow
    simp only [LOp.alloc.injEq] at e
    obtain ⟨e1, e2⟩ := e
    subst e1 e2
    exact ⟨i, rfl, h1, h2⟩
   | call c =>
    rw [hop] at hlow
    simp only [aM_, ff_] at hlow
    repeat' split at hlow
    all_goals simp at hlow
   | _ =>
    rw [hop] at hlow
    simp only [aM_] at hlow
    repeat' split at hlow
    all_goals first | contradiction | (simp at hlow; done) | (simp [Option.bind_eq_some_iff, Option.map_eq_some_iff] at hlow; done) | (simp only [Option.bind_eq_some_iff, Option.map_eq_some_iff] at hlow; (obtain ⟨_, _, _, _, q⟩ := hlow); (repeat' split at q) <;> simp at q)
  obtain ⟨i, hop, hi, hz⟩ := hop
  have hrun : (execOp a.eval o).run P w = .ok (.value (.pointer (some ⟨w.heap.size, 0, none⟩))) (w.alloc (.cells #[.pointer none, .slice none 0 0] E)) := by
   simp [execOp, hop, Instr.alloc, zeroValue, eE_ hi, hz, newVar, newRow, pW_, Value.cells]
  refine br_ hrun ?_
  have bel : Below w.heap.size w (w.alloc (.cells #[.pointer none, .slice none 0 0] E)) := (Below.refl _ w).alloc (Nat.le_refl _) _
  refine hh _ (.val (.pointer (some ⟨w.heap.size, 0, none⟩))) (some (w.heap.size, [])) _ (Below.less bel d.size) (d.turn (Below.less bel d.size) ?_) (by simp [Rep]) (hk _)
  refine .inl ⟨d.size, .slice none 0 0, ?_, ⟨rfl, .inl ⟨rfl, rfl⟩⟩, by simp [Value.ownBlock]⟩
  exact heap_alloc_new w _
 | call f args =>
  simp only [g1_] at hw
  have hop : ∃ c : Call, o.op = .call c ∧ c.callee = .value (.func f) ∧ c.args.toList = args ∧ co_ P f = true := by
   cases hop : o.op with
   | call c =>
    rw [hop] at hlow
    simp only [aM_, ff_] at hlow
    split at hlow
    ·rename_i f' hc
     split at hlow
     ·rename_i hf
      simp only [Option.some.injEq, LOp.call.injEq] at hlow
      obtain ⟨e1, e2⟩ := hlow
      subst e1
      exact ⟨c, rfl, hc, e2, hf⟩
     ·(repeat' split at hlow) <;> simp at hlow
    all_goals (repeat' split at hlow) <;> simp at hlow
   | _ =>
    rw [hop] at hlow
    simp only [aM_] at hlow
    repeat' split at hlow
    all_goals first | contradiction | (simp at hlow; done) | (simp [Option.bind_eq_some_iff, Option.map_eq_some_iff] at hlow; done) | (simp only [Option.bind_eq_some_iff, Option.map_eq_some_iff] at hlow; (obtain ⟨_, _, _, _, q⟩ := hlow); (repeat' split at q) <;> simp at q)
  obtain ⟨c, hop, hc, rfl, hf⟩ := hop
  obtain ⟨fn, cd, h1, h2, h3⟩ := hq_ hf
  have hmem := iy_ hok
  have hrun : (execOp a.eval o).run P w = .ok (.enter f (c.args.map a.eval)) w := by
   simp only [execOp, hop, Go.resolve, hc, Act.eval, Deferred.ofValue, Sem.run_bind, Sem.run_pure, Result.andThen_ok, invoke]
   rw [show (#[] ++ Array.map a.eval c.args ++ #[] : Array Value) = c.args.map a.eval by simp]
   exact iS_ h1 h2 h3 _
  unfold Oper.wp
  rw [hrun]
  refine (hw S B w (c.args.map a.eval) d (by simpa using e0_ hr (show ∀ x ∈ c.args.toList, av_ N x = true from hmem))).mono ?_
  rintro en w' ⟨v, av, σ', rfl, b, d', rv, k⟩
  exact hh v av σ' w' b d' rv k
 | _ => exact gen hw
end
theorem sg_ {P : Program} {T e : TypeId} {N : Nat} {S : Sit} {B : Nat} {σ : Bd} {w : World} {t : Nat → AV} {a : Act} {o : Oper} {lo : LOp} {u : AV} {next : Act → World → Prop} {Q : Exit → Act → World → Prop} (hTe : T ≠ e)
 (hlow : aM_ P o.op = some lo) (hok : hN_ N lo = true) (d : c4_ P T e S B σ w) (hr : Rel S N t a) (hw : ey_ P T e σ t (fun v => v = u) lo.asImm)
 (hh : ∀ v av w', Below B w w' → c4_ P T e S B σ w' → Rep S av v → av = u → next (a.put o.dst v) w') : o.wp P a w next Q := by
 have hw' : g1_ P T e t σ (fun v σ' => v = u ∧ σ' = σ) lo := by
  cases lo with
  | buildSlice E sz z len ps =>
   simp only [LOp.asImm, ey_, au_] at hw
  | call f args =>
   simp only [LOp.asImm, ey_] at hw
   obtain ⟨r, h1, rfl⟩ := hw
   exact h1
  | alloc E z =>
   simp only [LOp.asImm, ey_, au_] at hw
  | _ =>
   simp only [LOp.asImm, ey_] at hw
   simp only [g1_]
   split at hw
   ·first
    | exact ⟨hw, trivial⟩
    | exact ⟨hw, rfl⟩
    | (simp only [*]; exact ⟨hw, trivial⟩)
    | (simp only [*]; exact ⟨hw, rfl⟩)
   ·exact hw.elim
 refine n4_ (Q := Q) hTe hlow hok d hr hw' ?_
 rintro v av σ' w' b d' rv ⟨e1, rfl⟩
 exact hh v av w' b d' rv e1
section
variable {P : Program} {T e : TypeId} {N : Nat} {ops : Array Oper} {l : List LI} {t : Nat → AV} {vs : Nat → AV} {S : Sit} {B : Nat} {σ : Bd} {w0 : World} {Q : Exit → Act → World → Prop}
theorem qD_ {l0 : List LI} (hTe : T ≠ e) (hl : ops.toList.mapM (cx_ P N ops) = some l0) (hl0 : l = l0.map LI.asImm) (hd : mD_ ops l)
 (hrun : ∀ (k : Nat) (x : LI), l[k]? = some x → match cD_ (tAt l t vs k) x.guard with
   | some true => ey_ P T e σ (tAt l t vs k) (fun v => v = vs k) x.op
   | some false => vs k = .val Go.undef
   | none => False)
 (hQ : ∀ a w, Below B w0 w → c4_ P T e S B σ w → Rel S N (tAt l t vs l.length) a → Q .normal a w) :
 ∀ (fuel : Nat) (listed : Array Bool) (a : Act) (w : World), listed.toList.countP (fun b => !b) ≤ fuel → listed.size = ops.size →
  (∀ k o e, listed.getD k false = true → ops[k]? = some o → e ∈ o.after → Region.binds .any e = true → listed.getD e.on false = true) →
  Below B w0 w → c4_ P T e S B σ w → Rel S N (ev_ l t vs listed) a → wpAny P .any ops Q fuel listed a w := by
 have fin : ∀ (listed : Array Bool) (a : Act) (w : World), listed.size = ops.size → Region.ready .any ops listed = [] → Below B w0 w → c4_ P T e S B σ w → Rel S N (ev_ l t vs listed) a → Q .normal a w := by
  intro listed a w hs hn st hm hr
  have hall := nZ_ hd hs hn
  have e : ev_ l t vs listed = tAt l t vs l.length := by
   funext s
   by_cases q : ∃ k : Nat, (l[k]?).bind (fun y : LI => y.dst) = some s
   ·obtain ⟨k, hk⟩ := q
    have hk' : k < l.length := by
     cases hx : l[k]? with
     | none => simp [hx] at hk
     | some x => rcases List.getElem?_eq_some_iff.1 hx with ⟨q, _⟩; exact q
    rw [dy_ hd.one hk' (hall k (by rw [← hd.len]; exact hk')) hk, hZ_ hd.one hk hk']
   ·rw [c1_ (fun k _ e => q ⟨k, e⟩), f3_ (fun k _ e => q ⟨k, e⟩)]
  rw [e] at hr
  exact hQ a w st hm hr
 intro fuel
 induction fuel with
 | zero =>
  intro listed a w hc hs hcl st hm hr
  have hno : Region.ready .any ops listed = [] := by
   rcases eq_nil_or_concat (Region.ready .any ops listed) with q | ⟨ys, y, q⟩
   ·exact q
   ·exfalso
    have hy : y ∈ Region.ready .any ops listed := by rw [q]; simp
    obtain ⟨h1, h2, _⟩ := gd_ hy
    have : listed.toList.countP (fun b => !b) = 0 := by omega
    rw [countP_eq_zero] at this
    have hmem : listed.getD y true ∈ listed.toList := by
     rw [Array.getD_eq_getD_getElem?, Array.getElem?_eq_getElem (by omega)]
     simp
    have := this _ hmem
    rw [h2] at this
    simp at this
  exact ⟨hno, fin listed a w hs hno st hm hr⟩
 | succ fuel ih =>
  intro listed a w hc hs hcl st hm hr
  refine ⟨fun hno => fin listed a w hs hno st hm hr, fun i hi => ?_⟩
  obtain ⟨i1, i2, i3⟩ := gd_ hi
  have ho : ops[i]? = some ops[i] := Array.getElem?_eq_getElem i1
  obtain ⟨x0, hx0, hlow⟩ := jZ_ hl i ops[i] (by simp)
  obtain ⟨low1, low2, low3', lT_, _⟩ := eQ_ hlow
  obtain ⟨x, hxe⟩ : ∃ x, x = x0.asImm := ⟨_, rfl⟩
  have hx : l[i]? = some x := by rw [hl0, getElem?_map, hx0, hxe]; rfl
  have low3 : ops[i].dst = x.dst := by rw [hxe]; exact low3'
  have hxg : x.guard = x0.guard := by rw [hxe]; rfl
  have hxo : x.op = x0.op.asImm := by rw [hxe]; rfl
  obtain ⟨d, hxd⟩ := hd.dst i x hx
  have hil : i < l.length := by rw [hd.len]; exact i1
  have hi2 : listed.getD i false = false := by
   rw [Array.getD_eq_getD_getElem?, Array.getElem?_eq_getElem (by omega)] at i2 ⊢
   simpa using i2
  have hreads : ∀ s ∈ x.reads, ev_ l t vs listed s = tAt l t vs i s := by
   intro s hsr
   by_cases q : ∃ k : Nat, (l[k]?).bind (fun y : LI => y.dst) = some s
   ·obtain ⟨k, hk⟩ := q
    have hk' : k < l.length := by
     cases hx : l[k]? with
     | none => simp [hx] at hk
     | some x => rcases List.getElem?_eq_some_iff.1 hx with ⟨q, _⟩; exact q
    by_cases hki : k < i
    ·obtain ⟨o, e, ho', he, hb, hon⟩ := cY_ (hd.before i k x s hx hk hsr hki)
     have hkl := i3 o e ho' he hb
     rw [hon] at hkl
     rw [dy_ hd.one hk' hkl hk, hZ_ hd.one hk hki]
    ·obtain ⟨hne, hedge⟩ := hd.behind i k x s hx hk hsr hki
     obtain ⟨o, e, ho', he, hb, hon⟩ := cY_ hedge
     have hkn : listed.getD k false ≠ true := by
      intro hkl
      have := hcl k o e hkl ho' he hb
      rw [hon, hi2] at this
      simp at this
     rw [c1_, f3_]
     ·intro k' hk' e
      have := hd.one k k' s hk e
      omega
     ·intro k' hk'' e
      have := hd.one k k' s hk e
      subst this
      exact hkn hk''
   ·rw [c1_ (fun k _ e => q ⟨k, e⟩), f3_ (fun k _ e => q ⟨k, e⟩)]
  have hcurset : ev_ l t vs (listed.setIfInBounds i true) = put (ev_ l t vs listed) x.dst (vs i) := by
   funext s
   rw [hxd]
   simp only [put, upd]
   have hdi : (l[i]?).bind (·.dst) = some d := by simp [hx, hxd]
   by_cases e : s = d
   ·subst e
    rw [if_pos rfl, dy_ hd.one hil (by rw [eh_ (by omega)]; simp) hdi]
   ·rw [if_neg e]
    by_cases q : ∃ k, listed.getD k false = true ∧ (l[k]?).bind (·.dst) = some s
    ·obtain ⟨k, hk1, hk⟩ := q
     have hk' : k < l.length := by
      cases hx : l[k]? with
      | none => simp [hx] at hk
      | some x => rcases List.getElem?_eq_some_iff.1 hx with ⟨q, _⟩; exact q
     rw [dy_ hd.one hk' (by rw [eh_ (by omega)]; split <;> simp_all) hk, dy_ hd.one hk' hk1 hk]
    ·rw [c1_ (fun k hk e' => q ⟨k, hk, e'⟩), c1_]
     intro k hk e'
     rw [eh_ (by omega)] at hk
     split at hk
     ·rename_i eki
      subst eki
      rw [hdi] at e'
      simp at e'
      exact e e'.symm
     ·exact q ⟨k, hk, e'⟩
  have hcl' : ∀ k o e, (listed.setIfInBounds i true).getD k false = true → ops[k]? = some o → e ∈ o.after → Region.binds .any e = true → (listed.setIfInBounds i true).getD e.on false = true := by
   intro k o e hk ho' he hb
   rw [eh_ (by omega)] at hk ⊢
   split at hk
   ·rename_i eki
    subst eki
    have := i3 o e ho' he hb
    split
    ·rfl
    ·exact this
   ·have := hcl k o e hk ho' he hb
    split
    ·rfl
    ·exact this
  have hcnt : (listed.setIfInBounds i true).toList.countP (fun b => !b) ≤ fuel := by
   have hlt : i < listed.toList.length := by simp; omega
   have hv : listed.toList[i] = false := by
    rw [Array.getD_eq_getD_getElem?, Array.getElem?_eq_getElem (by omega)] at hi2
    simpa using hi2
   rw [Array.toList_setIfInBounds, countP_set hlt, hv]
   simp only [Bool.not_false, Bool.not_true, if_true, Bool.false_eq_true, if_false]
   omega
  have next : ∀ v w', Below B w w' → c4_ P T e S B σ w' → Rep S (vs i) v → wpAny P .any ops Q fuel (listed.setIfInBounds i true) (a.put ops[i].dst v) w' := by
   intro v w' st' hm' rv
   refine ih _ _ w' hcnt (by simp [hs]) hcl' (st.trans st') hm' ?_
   rw [hcurset, low3]
   exact hr.put rv
  have hrun' := hrun i x hx
  rw [← lQ_ hreads] at hrun'
  simp only [wpOp, ho]
  cases hw : cD_ (ev_ l t vs listed) x.guard with
  | none => rw [hw] at hrun'; exact hrun'.elim
  | some q =>
   rw [hw] at hrun'
   rw [e5_ hlow hr (hxg ▸ hw)]
   cases q with
   | true =>
    simp only [if_true]
    left
    have hq := sr_ x.op (fun y hy => (eq_ hreads y hy).symm) hrun'
    refine sg_ (Q := Q) hTe low1 low2 hm hr (hxo ▸ hq) ?_
    rintro v av w' st' hm' rv rfl
    exact next v w' st' hm' rv
   | false =>
    simp only [Bool.false_eq_true, if_false]
    refine next _ w (Below.refl _ _) hm ?_
    rw [hrun']
    simp [Rep]
theorem pL_ {id : Nat} {w : World} {a : Act} {K : (Nat → AV) → Prop} (hTe : T ≠ e) (hmx : P.follows .mixedOrders = true) {l0 : List LI} (hl : ops.toList.mapM (cx_ P N ops) = some l0) (hl0 : l = l0.map LI.asImm) (hok : i6_ ops l = true) (hw : g6_ P T e σ l t K) (hm : c4_ P T e S B σ w) (hr : Rel S N t a)
 (hQ : ∀ t' a' w', Below B w w' → c4_ P T e S B σ w' → Rel S N t' a' → K t' → Q .normal a' w') : (Code.region id ops true).wp P Q a w := by
 have hd := lM_ hok
 obtain ⟨vs, _, h2, h3⟩ := nQ_ l.length l 0 t (fun _ => .undef) (by omega) (by simpa [tAt] using hw)
 refine wp_region_any hmx ?_
 have hcur : ev_ l t vs (Array.replicate ops.size false) = t := by
  funext s
  refine c1_ fun k hk => ?_
  exfalso
  rw [Array.getD_eq_getD_getElem?] at hk
  by_cases q : k < ops.size
  ·rw [Array.getElem?_eq_getElem (by simpa using q)] at hk; simp at hk
  ·rw [Array.getElem?_eq_none (by simpa using q)] at hk; simp at hk
 have hst : Below B w { w with drawn := w.drawn + 1 } := ⟨rfl, rfl, rfl, Nat.le_refl _, fun _ _ => rfl⟩
 have hm' : c4_ P T e S B σ { w with drawn := w.drawn + 1 } := hm.keep ⟨rfl, rfl, rfl, Nat.le_refl _, fun _ _ => rfl⟩
 refine qD_ (w0 := w) hTe hl hl0 hd (fun k x hx => h3 k x (Nat.zero_le _) hx) (fun a' w' st hm' hr' => hQ _ a' w' st hm' hr' h2) ops.size _ a _ ?_ (by simp) ?_ hst hm' (by rw [hcur]; exact hr)
 ·have := countP_le_length (p := fun b : Bool => !b) (l := (Array.replicate ops.size false).toList)
  simpa using this
 ·intro k o e hk
  exfalso
  rw [Array.getD_eq_getD_getElem?] at hk
  by_cases q : k < ops.size
  ·rw [Array.getElem?_eq_getElem (by simpa using q)] at hk; simp at hk
  ·rw [Array.getElem?_eq_none (by simpa using q)] at hk; simp at hk
end
section
variable {P : Program} {T e : TypeId} {N : Nat} {pf : Bool}
def ji_ (P : Program) (T e : TypeId) (N : Nat) (S : Sit) (B : Nat) (w : World) (Q : eo_) (en : Exit) (a' : Act) (w' : World) : Prop :=
 ∃ t' σ', Below B w w' ∧ c4_ P T e S B σ' w' ∧ Rel S N t' a' ∧
  match en with
  | .normal => Q .normal t' σ'
  | .exit id => Q (.exit id) t' σ'
  | .ret => Q .ret t' σ'
  | _ => False
theorem ji_.step {S : Sit} {B : Nat} {w w1 : World} {Q : eo_} {en : Exit} {a : Act} {w' : World} (b : Below B w w1) (h : ji_ P T e N S B w1 Q en a w') : ji_ P T e N S B w Q en a w' := by
 obtain ⟨t', σ', h1, h2, h3, h4⟩ := h
 exact ⟨t', σ', b.trans h1, h2, h3, h4⟩
theorem jF_ (hTe : T ≠ e) {ops : Array Oper} {S : Sit} {B : Nat} {w0 : World} {K : (Nat → AV) → Bd → Prop} {Q : Exit → Act → World → Prop}
 (hQ : ∀ t σ a w, Below B w0 w → c4_ P T e S B σ w → Rel S N t a → K t σ → Q .normal a w) : ∀ (os : List Oper) (j : Nat) (l : List LI) (t : Nat → AV) (σ : Bd) (a : Act) (w : World),
 os = ops.toList.drop j → os.mapM (cx_ P N ops) = some l → ju_ P T e l t σ K → Below B w0 w → c4_ P T e S B σ w → Rel S N t a → wpOps P ops Q (List.range' j os.length) a w
 | [], j, l, t, σ, a, w, _, hl, hw, bl, d, hr => by
  simp at hl; subst hl
  simp only [ln_, range'_zero, wpOps]
  exact hQ t σ a w bl d hr hw
 | o :: os, j, l, t, σ, a, w, ho, hl, hw, bl, d, hr => by
  rw [mapM_cons] at hl
  cases h1 : cx_ P N ops o with
  | none => simp [h1] at hl
  | some x =>
   cases h2 : os.mapM (cx_ P N ops) with
   | none => simp [h1, h2] at hl
   | some l' =>
    simp [h1, h2] at hl
    subst hl
    have hget : ops[j]? = some o := by
     have : (ops.toList.drop j)[0]? = some o := by rw [← ho]; rfl
     simpa using this
    have hrest : os = ops.toList.drop (j + 1) := by
     have : (ops.toList.drop j).drop 1 = os := by rw [← ho]; rfl
     rw [drop_drop] at this
     exact this.symm
    obtain ⟨low1, low2, low3, lT_, _⟩ := eQ_ h1
    simp only [lc_, range'_succ]
    rw [wpOps_cons]
    simp only [wpOp, hget]
    simp only [ju_] at hw
    cases hq : cD_ t x.guard with
    | none => rw [hq] at hw; exact hw.elim
    | some q =>
     rw [hq] at hw
     rw [e5_ h1 hr hq]
     cases q with
     | true =>
      simp only [if_true]
      left
      refine n4_ (Q := Q) hTe low1 low2 d hr hw ?_
      intro v av σ' w' b' d' rv hk
      refine jF_ hTe hQ os (j + 1) l' _ σ' _ w' hrest h2 hk (bl.trans b') d' ?_
      rw [low3]
      exact hr.put rv
     | false =>
      simp only [Bool.false_eq_true, if_false]
      refine jF_ hTe hQ os (j + 1) l' _ σ _ w hrest h2 hw bl d ?_
      rw [low3]
      exact hr.put (by simp [Rep])
theorem tw_ (hTe : T ≠ e) (hmx : P.follows .mixedOrders = true) : ∀ (lc : LC) (code : Code) (Q : eo_) (t : Nat → AV) (σ : Bd) (S : Sit) (B : Nat) (a : Act) (w : World),
 bc_ P N pf code = some lc.erase → bwp P T e lc Q t σ → c4_ P T e S B σ w → Rel S N t a → code.wp P (ji_ P T e N S B w Q) a w := by
 intro lc
 induction lc with
 | skip =>
  intro code Q t σ S B a w hl hw d hr
  have := pu_ hl; subst this
  exact wp_skip ⟨t, σ, Below.refl _ _, d, hr, hw⟩
 | exit id =>
  intro code Q t σ S B a w hl hw d hr
  have := o7_ hl; subst this
  exact wp_exit ⟨t, σ, Below.refl _ _, d, hr, hw⟩
 | ret =>
  intro code Q t σ S B a w hl hw d hr
  have := rA_ hl; subst this
  exact wp_ret ⟨t, σ, Below.refl _ _, d, hr, hw⟩
 | ops l =>
  intro code Q t σ S B a w hl hw d hr
  obtain ⟨id, ops, e, h1⟩ := rr_ hl
  subst e
  refine wp_region ?_
  have := jF_ hTe (Q := ji_ P T e N S B w Q) (K := Q .normal) (w0 := w) (fun t' σ' a' w' bl d' hr' hk => ⟨t', σ', bl, d', hr', hk⟩) ops.toList 0 l t σ a w (by simp) h1 hw (Below.refl _ _) d hr
  simpa [range_eq_range'] using this
 | dops l =>
  intro code Q t σ S B a w hl hw d hr
  obtain ⟨id, ops, l0, e, h1, h0, h2⟩ := pV_ hl
  subst e
  exact pL_ hTe hmx h1 h0 h2 hw d hr (fun t' a' w' st hm' hr' hk => ⟨t', σ, st, hm', hr', hk⟩)
 | gops pre chain =>
  intro code Q t σ S B a w hl hw d hr
  exact hw.elim
 | ghost l =>
  intro code Q t σ S B a w hl hw d hr
  exact hw.elim
 | seq x y ihx ihy =>
  intro code Q t σ S B a w hl hw d hr
  obtain ⟨ca, cb, e, h1, h2⟩ := ry_ hl
  subst e
  refine wp_seq (wp_mono (ihx ca _ t σ S B a w h1 hw d hr) ?_)
  intro en a' w' hp
  obtain ⟨t', σ', bl, d', hr', hq⟩ := hp
  cases en with
  | normal => exact wp_mono (ihy cb Q t' σ' S B a' w' h2 hq d' hr') fun e a'' w'' hp => hp.step bl
  | exit id => exact ⟨t', σ', bl, d', hr', hq⟩
  | ret => exact ⟨t', σ', bl, d', hr', hq⟩
  | goto l => exact hq.elim
  | panic c => exact hq.elim
  | outgrown => exact hq.elim
 | cond c x y ihx ihy =>
  intro code Q t σ S B a w hl hw d hr
  obtain ⟨ca, cb, e, h1, h2, h3⟩ := pY_ hl
  subst e
  have rc := hr.eval h3
  simp only [bwp] at hw
  split at hw
  ·rename_i q e
   rw [e] at rc
   simp only [Rep] at rc
   exact wp_cond_split rc (fun hq => ihx ca Q t σ S B a w h1 (hw.1 hq) d hr) (fun hq => ihy cb Q t σ S B a w h2 (hw.2 hq) d hr)
  ·exact hw.elim
 | block id x ih =>
  intro code Q t σ S B a w hl hw d hr
  obtain ⟨ca, e, h1⟩ := nU_ hl
  subst e
  refine wp_block (wp_mono (ih ca _ t σ S B a w h1 hw d hr) ?_)
  intro en a' w' hp
  obtain ⟨t', σ', bl, d', hr', hq⟩ := hp
  cases en with
  | normal => exact ⟨t', σ', bl, d', hr', hq⟩
  | exit k =>
   simp only [Exit.inBlock]
   split
   ·rename_i ek
    simp only [ek, if_true] at hq
    exact ⟨t', σ', bl, d', hr', hq⟩
   ·rename_i ek
    simp only [ek, if_false] at hq
    exact ⟨t', σ', bl, d', hr', hq⟩
  | ret => exact ⟨t', σ', bl, d', hr', hq⟩
  | goto l => exact hq.elim
  | panic c => exact hq.elim
  | outgrown => exact hq.elim
 | loop x ih =>
  intro code Q t σ S B a w hl hw d hr
  obtain ⟨ca, e, h1⟩ := pz_ hl
  subst e
  obtain ⟨I, n, h0, hround⟩ := hw
  refine wp_loop_ghost (fun n a' w' => ∃ t' σ', Below B w w' ∧ c4_ P T e S B σ' w' ∧ Rel S N t' a' ∧ I n t' σ') n ⟨t, σ, Below.refl _ _, d, hr, h0⟩ ?_
  intro n a1 w1 ⟨t1, σ1, bl1, d1, hr1, hI⟩
  refine wp_mono (ih ca _ t1 σ1 S B a1 w1 h1 (hround n t1 σ1 hI) d1 hr1) ?_
  intro en a' w' hp
  obtain ⟨t', σ', bl, d', hr', hq⟩ := hp
  cases en with
  | normal =>
   obtain ⟨m, hlt, hI'⟩ := hq
   exact ⟨m, hlt, t', σ', bl1.trans bl, d', hr', hI'⟩
  | exit id => exact ⟨t', σ', bl1.trans bl, d', hr', hq⟩
  | ret => exact ⟨t', σ', bl1.trans bl, d', hr', hq⟩
  | goto l => exact hq.elim
  | panic c => exact hq.elim
  | outgrown => exact hq.elim
end
def fN_ (res : List LRes) (K : AV → Bd → Prop) (en : LE) (t : Nat → AV) (σ : Bd) : Prop :=
 match en with
 | .exit _ => False
 | _ => ∃ avs, res.mapM (dU_ t []) = some avs ∧ K (c5_ avs) σ
theorem vH_ {P : Program} {T e : TypeId} {f : FuncId} {fn : Func} {lf : LF} {args : List AV} {σ : Bd} {K : AV → Bd → Prop} (hTe : T ≠ e) (hmx : P.follows .mixedOrders = true) (hf : P.funcs[f]? = some fn) (hl : at_ P fn lf) (hnp : args.length = lf.np)
 (hw : bwp P T e lf.body (fN_ lf.res K) (fW_ args) σ) : gz_ P T e f args σ K := by
 intro S B w vals d hr
 obtain ⟨c, pf, hb, hc⟩ := hl.body
 refine calls_of_wp hf hb ?_
 rw [hl.N]
 refine wp_mono (tw_ hTe hmx lf.body c _ _ σ S B _ w hc hw d (Rel.init hr (by rw [hnp]; exact hl.np))) ?_
 intro en a' w' hp
 obtain ⟨t', σ', bl, d', hr', hq⟩ := hp
 have fin : (∃ avs, lf.res.mapM (dU_ t' []) = some avs ∧ K (c5_ avs) σ') → a'.defers = [] ∧ ∃ v, (results fn a'.tmps).run P w' = .ok v w' ∧ (∃ v_1 av σ'_1, Ending.returned v = .returned v_1 ∧ Below B w w' ∧ c4_ P T e S B σ'_1 w' ∧ Rep S av v_1 ∧ K av σ'_1) := by
  rintro ⟨avs, h1, h2⟩
  refine ⟨hr'.2.1, ?_⟩
  obtain ⟨vs, r1, r2⟩ := iX_ hl.res d'.models hr' h1
  have hlen := as_.length r2
  have hrun : (results fn a'.tmps).run P w' = .ok (if h : vs.toArray.size = 1 then vs.toArray[0] else .tuple vs.toArray) w' := by
   rw [mX_, Sem.run_bind, Array.mapM_eq_mapM_toList, Sem.run_map, r1]
   rfl
  refine ⟨_, hrun, _, c5_ avs, σ', rfl, bl, d', ?_, h2⟩
  cases avs with
  | nil =>
   simp [as_] at r2; subst r2
   simp [c5_, Rep, as_]
  | cons av rest =>
   cases rest with
   | nil =>
    simp only [as_] at r2
    obtain ⟨v, r, e, r2, r3⟩ := r2
    subst r3 e
    simpa [c5_] using r2
   | cons av2 rest =>
    have : ¬ vs.toArray.size = 1 := by simp [hlen]
    simp only [this, dif_neg, not_false_eq_true, c5_, Rep]
    exact ⟨_, rfl, by simpa using r2⟩
 cases en with
 | normal => exact fin hq
 | ret => exact fin hq
 | exit id => exact hq.elim
 | goto l => exact hq.elim
 | panic c => exact hq.elim
 | outgrown => exact hq.elim
theorem j7_ {P : Program} {T e : TypeId} {f : FuncId} {args : List AV} {r : AV} (hs : r.solid = true) (hp : args.all AV.plain = true) (hc : gz_ P T e f args none fun q _ => q = r) (h : List Row) : aa_ P f args h r := by
 intro K hk S w vals hm hgl hr
 have d : c4_ P T e S.still w.heap.size none w := ⟨rfl, fun k c q => ⟨hm.immLt q, hm.imm k c q⟩, Nat.le_refl _, hgl, trivial⟩
 refine (hc S.still w.heap.size w vals d (gr_ hp hr)).mono ?_
 rintro en w' ⟨v, av, σ', rfl, b, d', rv, rfl⟩
 exact ⟨v, _, S, h, rfl, bo_.below b, hm.below b, in_ hs rv, hk⟩
inductive BFr where
 | seq (b : LC)
 | blk (id : Nat)
 | loop (I : Nat → (Nat → AV) → Bd → Prop) (n : Nat)
def bxK (P : Program) (T e : TypeId) (Q : eo_) : List BFr → LE → (Nat → AV) → Bd → Prop
 | [], en, t, σ => Q en t σ
 | .seq b :: k, en, t, σ => match en with | .normal => bwp P T e b (bxK P T e Q k) t σ | en => bxK P T e Q k en t σ
 | .blk id :: k, en, t, σ => match en with | .exit j => if j = id then bxK P T e Q k .normal t σ else bxK P T e Q k (.exit j) t σ | en => bxK P T e Q k en t σ
 | .loop I n :: k, en, t, σ => match en with | .normal => ∃ m, m < n ∧ I m t σ | en => bxK P T e Q k en t σ
structure dL_ (P : Program) (T e : TypeId) (Q : eo_) (k : List BFr) (en : LE) (t : Nat → AV) (σ : Bd) : Prop where
 out : bxK P T e Q k en t σ
structure BEx (P : Program) (T e : TypeId) (Q : eo_) (c : LC) (k : List BFr) (t : Nat → AV) (σ : Bd) : Prop where
 out : bwp P T e c (bxK P T e Q k) t σ
structure ny_ (P : Program) (T e : TypeId) (Q : eo_) (l : List LI) (k : List BFr) (t : Nat → AV) (σ : Bd) : Prop where
 out : ju_ P T e l t σ (bxK P T e Q k .normal)
structure BAf (P : Program) (T e : TypeId) (Q : eo_) (d : Option Nat) (l : List LI) (k : List BFr) (t : Nat → AV) (v : AV) (σ : Bd) : Prop where
 out : ju_ P T e l (put t d v) σ (bxK P T e Q k .normal)
structure rS_ (P : Program) (T e : TypeId) (Q : eo_) (l : List LI) (k : List BFr) (t : Nat → AV) (σ : Bd) : Prop where
 out : g6_ P T e σ l t (fun t' => bxK P T e Q k .normal t' σ)
structure uR_ (P : Program) (T e : TypeId) (Q : eo_) (d : Option Nat) (l : List LI) (k : List BFr) (t : Nat → AV) (σ : Bd) (v : AV) : Prop where
 out : g6_ P T e σ l (put t d v) (fun t' => bxK P T e Q k .normal t' σ)
theorem vh_ (P : Program) (T e : TypeId) (Q : eo_) (d : Option Nat) (l : List LI) (k : List BFr) (t : Nat → AV) (σ : Bd) : uR_ P T e Q d l k t σ = fun v => g6_ P T e σ l (put t d v) (fun t' => bxK P T e Q k .normal t' σ) :=
 funext fun _ => propext ⟨fun q => q.out, fun q => ⟨q⟩⟩
structure v1_ (P : Program) (T e : TypeId) (Q : eo_) (w : Option Bool) (d : Option Nat) (op : LOp) (l : List LI) (k : List BFr) (t : Nat → AV) (σ : Bd) : Prop where
 out : match w with
  | some true => g1_ P T e t σ (BAf P T e Q d l k t) op
  | some false => ju_ P T e l (put t d (.val Go.undef)) σ (bxK P T e Q k .normal)
  | none => False
structure uT_ (P : Program) (T e : TypeId) (Q : eo_) (v : AV) (a b : LC) (k : List BFr) (t : Nat → AV) (σ : Bd) : Prop where
 out : match v with | .val (.bool q) => (q = true → BEx P T e Q a k t σ) ∧ (q = false → BEx P T e Q b k t σ) | _ => False
theorem nw_ (P : Program) (T e : TypeId) (Q : eo_) (d : Option Nat) (l : List LI) (k : List BFr) (t : Nat → AV) : BAf P T e Q d l k t = fun v σ => ju_ P T e l (put t d v) σ (bxK P T e Q k .normal) :=
 funext fun _ => funext fun _ => propext ⟨fun q => q.out, fun q => ⟨q⟩⟩
section
variable {P : Program} {T e : TypeId} {Q : eo_} {k : List BFr} {t : Nat → AV} {σ : Bd}
theorem uS_ : BEx P T e Q .skip k t σ = dL_ P T e Q k .normal t σ := propext ⟨fun q => ⟨q.out⟩, fun q => ⟨q.out⟩⟩
theorem yr_ (a b : LC) : BEx P T e Q (.seq a b) k t σ = BEx P T e Q a (.seq b :: k) t σ := propext ⟨fun q => ⟨q.out⟩, fun q => ⟨q.out⟩⟩
theorem yz_ (l : List LI) : BEx P T e Q (.ops l) k t σ = ny_ P T e Q l k t σ := propext ⟨fun q => ⟨q.out⟩, fun q => ⟨q.out⟩⟩
theorem uU_ (l : List LI) : BEx P T e Q (.dops l) k t σ = rS_ P T e Q l k t σ := propext ⟨fun q => ⟨q.out⟩, fun q => ⟨q.out⟩⟩
theorem vj_ : rS_ P T e Q [] k t σ = dL_ P T e Q k .normal t σ := propext ⟨fun q => ⟨q.out⟩, fun q => ⟨q.out⟩⟩
theorem tP_ (d : Option Nat) (op : LOp) (l : List LI) : rS_ P T e Q (⟨d, none, op⟩ :: l) k t σ = ey_ P T e σ t (uR_ P T e Q d l k t σ) op := by
 rw [vh_]; exact propext ⟨fun q => q.out, fun q => ⟨q⟩⟩
theorem yH_ (d : Option Nat) (l : List LI) (v : AV) : uR_ P T e Q d l k t σ v = rS_ P T e Q l k (put t d v) σ := propext ⟨fun q => ⟨q.out⟩, fun q => ⟨q.out⟩⟩
theorem rs_ (c : LC) : BEx P T e Q c k t σ = bwp P T e c (bxK P T e Q k) t σ := propext ⟨fun q => q.out, fun q => ⟨q⟩⟩
theorem vY_ (c : Operand) (a b : LC) : BEx P T e Q (.cond c a b) k t σ = uT_ P T e Q (ay_ t c) a b k t σ := by
 refine propext ⟨fun q => ⟨?_⟩, fun q => ⟨?_⟩⟩
 ·simp only [rs_]; exact q.out
 ·have := q.out; simp only [rs_] at this; exact this
theorem tI_ (id : Nat) (b : LC) : BEx P T e Q (.block id b) k t σ = BEx P T e Q b (.blk id :: k) t σ := propext ⟨fun q => ⟨q.out⟩, fun q => ⟨q.out⟩⟩
theorem vw_ (id : Nat) : BEx P T e Q (.exit id) k t σ = dL_ P T e Q k (.exit id) t σ := propext ⟨fun q => ⟨q.out⟩, fun q => ⟨q.out⟩⟩
theorem x9_ : BEx P T e Q .ret k t σ = dL_ P T e Q k .ret t σ := propext ⟨fun q => ⟨q.out⟩, fun q => ⟨q.out⟩⟩
theorem vP_ : ny_ P T e Q [] k t σ = dL_ P T e Q k .normal t σ := propext ⟨fun q => ⟨q.out⟩, fun q => ⟨q.out⟩⟩
theorem t3_ (d : Option Nat) (op : LOp) (l : List LI) : ny_ P T e Q (⟨d, none, op⟩ :: l) k t σ = g1_ P T e t σ (BAf P T e Q d l k t) op := by
 rw [nw_]; exact propext ⟨fun q => q.out, fun q => ⟨q⟩⟩
theorem r6_ (d : Option Nat) (s : Nat) (want : Bool) (op : LOp) (l : List LI) : ny_ P T e Q (⟨d, some (s, want), op⟩ :: l) k t σ = v1_ P T e Q (cD_ t (some (s, want))) d op l k t σ := by
 refine propext ⟨fun q => ⟨?_⟩, fun q => ⟨?_⟩⟩
 ·have := q.out; rw [nw_]; exact this
 ·have := q.out; rw [nw_] at this; exact this
theorem tx_ (d : Option Nat) (op : LOp) (l : List LI) : v1_ P T e Q (some true) d op l k t σ = g1_ P T e t σ (BAf P T e Q d l k t) op := propext ⟨fun q => q.out, fun q => ⟨q⟩⟩
theorem sO_ (d : Option Nat) (op : LOp) (l : List LI) : v1_ P T e Q (some false) d op l k t σ = ny_ P T e Q l k (put t d (.val Go.undef)) σ := propext ⟨fun q => ⟨q.out⟩, fun q => ⟨q.out⟩⟩
theorem CI_ (d : Option Nat) (l : List LI) (v : AV) : BAf P T e Q d l k t v σ = ny_ P T e Q l k (put t d v) σ := propext ⟨fun q => ⟨q.out⟩, fun q => ⟨q.out⟩⟩
theorem vL_ (en : LE) : dL_ P T e Q [] en t σ = Q en t σ := propext ⟨fun q => q.out, fun q => ⟨q⟩⟩
theorem mN_ (b : LC) : dL_ P T e Q (.seq b :: k) .normal t σ = BEx P T e Q b k t σ := propext ⟨fun q => ⟨q.out⟩, fun q => ⟨q.out⟩⟩
theorem pX_ (b : LC) : dL_ P T e Q (.seq b :: k) .ret t σ = dL_ P T e Q k .ret t σ := propext ⟨fun q => ⟨q.out⟩, fun q => ⟨q.out⟩⟩
theorem oU_ (b : LC) (i : Nat) : dL_ P T e Q (.seq b :: k) (.exit i) t σ = dL_ P T e Q k (.exit i) t σ := propext ⟨fun q => ⟨q.out⟩, fun q => ⟨q.out⟩⟩
theorem nd_ (i : Nat) : dL_ P T e Q (.blk i :: k) .normal t σ = dL_ P T e Q k .normal t σ := propext ⟨fun q => ⟨q.out⟩, fun q => ⟨q.out⟩⟩
theorem pl_ (i : Nat) : dL_ P T e Q (.blk i :: k) .ret t σ = dL_ P T e Q k .ret t σ := propext ⟨fun q => ⟨q.out⟩, fun q => ⟨q.out⟩⟩
theorem oP_ (i j : Nat) : dL_ P T e Q (.blk i :: k) (.exit j) t σ = if j = i then dL_ P T e Q k .normal t σ else dL_ P T e Q k (.exit j) t σ := by
 refine propext ⟨fun q => ?_, fun q => ⟨?_⟩⟩
 ·have := q.out
  simp only [bxK] at this
  split
  ·rename_i e; rw [if_pos e] at this; exact ⟨this⟩
  ·rename_i e; rw [if_neg e] at this; exact ⟨this⟩
 ·simp only [bxK]
  split
  ·rename_i e; rw [if_pos e] at q; exact q.out
  ·rename_i e; rw [if_neg e] at q; exact q.out
theorem oE_ (I : Nat → (Nat → AV) → Bd → Prop) (n : Nat) : dL_ P T e Q (.loop I n :: k) .ret t σ = dL_ P T e Q k .ret t σ := propext ⟨fun q => ⟨q.out⟩, fun q => ⟨q.out⟩⟩
theorem nM_ (I : Nat → (Nat → AV) → Bd → Prop) (n j : Nat) : dL_ P T e Q (.loop I n :: k) (.exit j) t σ = dL_ P T e Q k (.exit j) t σ := propext ⟨fun q => ⟨q.out⟩, fun q => ⟨q.out⟩⟩
theorem l2_ (I : Nat → (Nat → AV) → Bd → Prop) (n : Nat) : dL_ P T e Q (.loop I n :: k) .normal t σ = ∃ m, m < n ∧ I m t σ := propext ⟨fun q => q.out, fun q => ⟨q⟩⟩
theorem mb_ {b : LC} (I : Nat → (Nat → AV) → Bd → Prop) (n : Nat) (h0 : I n t σ)
 (hr : ∀ (J : Nat → (Nat → AV) → Bd → Prop), (∀ m t h, I m t h → J m t h) → ∀ n t h, I n t h → BEx P T e Q b (.loop J n :: k) t h) : BEx P T e Q (.loop b) k t σ :=
 ⟨I, n, h0, fun n t h hi => (hr I (fun _ _ _ q => q) n t h hi).out⟩
theorem tO_ (a b : LC) : uT_ P T e Q (.val (.bool true)) a b k t σ = BEx P T e Q a k t σ :=
 propext ⟨fun q => q.out.1 rfl, fun q => ⟨⟨fun _ => q, fun e => (by cases e)⟩⟩⟩
theorem rN_ (a b : LC) : uT_ P T e Q (.val (.bool false)) a b k t σ = BEx P T e Q b k t σ :=
 propext ⟨fun q => q.out.2 rfl, fun q => ⟨⟨fun e => (by cases e), fun _ => q⟩⟩⟩
theorem sS_ (K : AV → Bd → Prop) : fN_ [] K .ret t σ = K (.tup []) σ := by
 simp [fN_, c5_]
theorem rD_ (K : AV → Bd → Prop) : fN_ [] K .normal t σ = K (.tup []) σ := by
 simp [fN_, c5_]
theorem so_ (s : Nat) (K : AV → Bd → Prop) : fN_ [.tmp s] K .ret t σ = K (t s) σ := by
 simp [fN_, dU_, c5_]
theorem s0_ (s u v : Nat) (K : AV → Bd → Prop) : fN_ [.tmp s, .tmp u, .tmp v] K .ret t σ = K (.tup [t s, t u, t v]) σ := by
 simp [fN_, dU_, c5_]
end
theorem mg_ {P : Program} {T e : TypeId} {f : FuncId} {fn : Func} {lf : LF} {args : List AV} {σ : Bd} {K : AV → Bd → Prop} (hTe : T ≠ e) (hmx : P.follows .mixedOrders = true) (hf : P.funcs[f]? = some fn) (hl : at_ P fn lf) (hnp : args.length = lf.np)
 (hw : BEx P T e (fN_ lf.res K) lf.body [] (fW_ args) σ) : gz_ P T e f args σ K := vH_ hTe hmx hf hl hnp (by
 have h1 := hw.out
 have e1 : bxK P T e (fN_ lf.res K) [] = fN_ lf.res K := rfl
 rw [e1] at h1
 exact h1)
attribute [go_sem] uS_ yr_ yz_ vY_ tI_ vw_ x9_ vP_ t3_ r6_ tx_ sO_ CI_ vL_ mN_ pX_ oU_ nd_ pl_ oP_
attribute [go_sem] oE_ nM_ l2_ tO_ rN_ sS_ rD_ so_ s0_ g1_ uU_ vj_ tP_ yH_ ey_
theorem ky_ {P : Program} {T e : TypeId} {f : FuncId} {b : Nat} {bs new : List UInt8} {vals : List Value} {r : Value}
 (hc : ∀ (B : Nat) (w : World), Lib.IsBuilderF T e B b (Lib.byteCells bs) w → B ≤ w.heap.size → Calls P f (.pointer (some ⟨b, 0, none⟩) :: vals).toArray w fun en w' => en = .returned r ∧ Lib.IsBuilderF T e B b (Lib.byteCells (bs ++ new)) w' ∧ Below B w w')
 {K : AV → Bd → Prop} (hk : K (.val r) (some (b, bs ++ new))) : gz_ P T e f (.val (.pointer (some ⟨b, 0, none⟩)) :: vals.map AV.val) (some (b, bs)) K := by
 intro S B w xs d hr
 have e1 := gB_ (vs := .pointer (some ⟨b, 0, none⟩) :: vals) hr
 have e' : xs = (Value.pointer (some ⟨b, 0, none⟩) :: vals).toArray := by cases xs; simp at e1; rw [e1]
 subst e'
 refine (hc B w d.bd d.size).mono ?_
 rintro en w' ⟨rfl, h1, h2⟩
 exact ⟨r, .val r, some (b, bs ++ new), rfl, h2, d.turn (σ' := some (b, bs ++ new)) h2 h1, by simp [Rep], hk⟩
end Go.AW
namespace Go.AW
open List
set_option linter.unusedVariables false
set_option linter.unusedSimpArgs false
theorem ng_ (q : Bool) (k yk : IntKind) (a b : Int) (hb : 0 ≤ b) : bf_ .shr q (.val (.int k a)) (.val (.int yk b)) = some (.val (.int k (a.fdiv (2 ^ (min b.toNat k.bits))))) := by
 have : bf_ .shr q (.val (.int k a)) (.val (.int yk b)) = eN_ (Op.shift .shr k a yk b) := by rfl
 rw [this, Op.shift, if_neg (by omega)]; rfl
theorem rq_ (q : Bool) (k yk : IntKind) (a b : Int) (hb : 0 ≤ b) : bf_ .shl q (.val (.int k a)) (.val (.int yk b)) = some (.val (.int k (k.wrap (a * 2 ^ (min b.toNat k.bits))))) := by
 have : bf_ .shl q (.val (.int k a)) (.val (.int yk b)) = eN_ (Op.shift .shl k a yk b) := by rfl
 rw [this, Op.shift, if_neg (by omega)]; rfl
theorem vc_ (q : Bool) (a b : Int) : bf_ .add q (.val (.int .u64 a)) (.val (.int .u64 b)) = some (.val (.int .u64 (IntKind.u64.wrap (a + b)))) := rfl
theorem yb_ (q : Bool) (a b : Int) : bf_ .or q (.val (.int .i64 a)) (.val (.int .i64 b)) = some (.val (.int .i64 (IntKind.i64.wrap ((BitVec.ofInt 64 a ||| BitVec.ofInt 64 b).toNat : Int)))) := rfl
theorem o6_ {n : Int} (h1 : 0 ≤ n) (h2 : n ≤ 18446744073709551615) : IntKind.u64.wrap n = n := by
 have : IntKind.u64.wrap n = n % 18446744073709551616 := by simp [IntKind.wrap, IntKind.bits, IntKind.signed]
 rw [this]; omega
theorem m3_ (n j : Nat) : IntKind.u8.wrap ((n / 256 ^ j : Nat) : Int) = ((dq_ n j).toNat : Int) := by
 rw [IntKind.wrap_u8, ks_]; omega
theorem pN_ (n j : Nat) (h : j ≤ 7) : ((n : Int).fdiv (2 ^ (min (8 * (j : Int)).toNat 64))) = ((n / 256 ^ j : Nat) : Int) := by
 have e1 : min (8 * (j : Int)).toNat 64 = 8 * j := by omega
 rw [e1, Int.fdiv_eq_ediv_of_nonneg _ (Int.pow_nonneg (by decide))]
 have e2 : (2 : Int) ^ (8 * j) = ((256 ^ j : Nat) : Int) := by
  rw [Int.pow_mul]
  simp
 rw [e2, Int.natCast_ediv]
theorem yD_ (x b : Nat) (h : b < 256) (hx : x < 9223372036854775808 * 2) : (BitVec.ofInt 64 (IntKind.i64.wrap ((IntKind.i64.wrap (x : Int)) * 2 ^ (min (8 : Int).toNat 64))) ||| BitVec.ofInt 64 (b : Int)).toNat = (x * 256 + b) % 18446744073709551616 := by
 have h8 : (2 : Int) ^ (min (8 : Int).toNat 64) = 256 := by decide
 rw [h8]
 have e1 : BitVec.ofInt 64 (IntKind.i64.wrap ((IntKind.i64.wrap (x : Int)) * 256)) = BitVec.ofNat 64 (x * 256) := by
  apply BitVec.eq_of_toNat_eq
  rw [BitVec.toNat_ofInt, BitVec.toNat_ofNat, IntKind.wrap_i64, IntKind.wrap_i64]
  omega
 have e2 : BitVec.ofInt 64 (b : Int) = BitVec.ofNat 64 b := by
  apply BitVec.eq_of_toNat_eq
  rw [BitVec.toNat_ofInt, BitVec.toNat_ofNat]; omega
 rw [e1, e2, BitVec.toNat_or, BitVec.toNat_ofNat, BitVec.toNat_ofNat]
 have e3 : b % 2 ^ 64 = b := Nat.mod_eq_of_lt (by omega)
 have e4 : x * 256 % 2 ^ 64 = 2 ^ 8 * (x % 2 ^ 56) := by omega
 rw [e3, e4, ← Nat.two_pow_add_eq_or_of_lt (by omega)]
 omega
theorem tZ_ (acc : Nat) (l : List UInt8) (b : UInt8) : cr_ acc (l ++ [b]) = cr_ acc l * 256 + b.toNat := by
 unfold cr_; rw [foldl_append]; rfl
theorem oN_ (b : UInt8) (l : List UInt8) (hb : b ≠ 0) : ∀ k : Nat, Lib.replaceK [0] [0, 255] k (b :: l) = b :: Lib.replaceK [0] [0, 255] k l
 | 0 => rfl
 | k + 1 => by
  have hge := Lib.indexByte_ge l 0
  have e : Lib.index (b :: l) [0] = if Lib.index l [0] == -1 then -1 else Lib.index l [0] + 1 := by
   rw [Lib.index_one, Lib.index_one, Lib.indexByte, if_neg (by simpa using hb)]
  rw [Lib.replaceK, Lib.replaceK, e]
  rw [← Lib.index_one] at hge
  by_cases h : Lib.index l [0] = -1
  ·simp [h]
  ·have hn : (Lib.index l [0] == -1) = false := by simpa using h
   obtain ⟨i, hi⟩ : ∃ i : Nat, Lib.index l [0] = i := ⟨(Lib.index l [0]).toNat, by omega⟩
   have hn2 : (((i : Int) + 1) == -1) = false := by simp; omega
   have hn3 : (((i : Int)) == -1) = false := by simp
   simp only [hi, hn2, hn3, Bool.false_eq_true, if_false]
   have t1 : ((i : Int) + 1).toNat = i + 1 := by omega
   have t2 : ((i : Int)).toNat = i := by omega
   rw [t1, t2]
   simp [take_succ_cons, drop_succ_cons]
theorem ia_ : ∀ l : List UInt8, Lib.replaceK [0] [0, 255] (l.count 0) l = esc l
 | [] => rfl
 | b :: l => by
  by_cases h : b = 0
  ·subst h
   have e : Lib.index ((0 : UInt8) :: l) [0] = 0 := by rw [Lib.index_one, Lib.indexByte]; rfl
   rw [count_cons_self, Lib.replaceK, e, esc, if_pos rfl]
   simp only [Int.reduceNeg, beq_iff_eq, Int.reduceEq, if_false, Int.toNat_zero, take_zero, nil_append, Nat.zero_add, length_singleton, drop_succ_cons, drop_zero]
   rw [ia_ l]; rfl
  ·rw [count_cons_of_ne (by simpa using h), oN_ b l h, ia_ l, esc, if_neg h]
theorem nq_ (l : List UInt8) : Lib.replaceAll l [0] [0, 255] = esc l := by
 rw [Lib.replaceAll, Lib.replace, if_neg (by decide), Lib.replaceNum, if_pos (.inl (by decide)), Lib.count_one, ia_]
end Go.AW
namespace Go.Proofs.YtfplhbjggecnpaaGreatDoor
open List
open Go.AW
set_option linter.unusedVariables false
set_option linter.unusedSimpArgs false
set_option maxRecDepth 4000
abbrev l8_ (b : Nat) : AV := .val (.pointer (some ⟨b, 0, none⟩))
theorem nb_ {b : Nat} {l : List UInt8} {c : UInt8} {K : AV → Bd → Prop} (hlen : l.length + 1 ≤ 140737488355328) (hk : K (.val .nilIface) (some (b, l ++ [c]))) : gz_ Tryz.prog 179 5 216 [l8_ b, .val (.int .u8 c.toNat)] (some (b, l)) K :=
 ky_ (vals := [.int .u8 c.toNat]) (r := .nilIface) (new := [c]) (fun B w h hB => (Any.Builder_WriteByte_k Tryz.lays167 Tryz.Builder_Extra_167 B b (Lib.byteCells l) c.toNat w h (by rw [Lib.byteCells_length]; exact hlen) hB).mono (by
  rintro en w' ⟨rfl, h1, h2, _⟩
  refine ⟨rfl, .inr ?_, h2⟩
  have e : Lib.byteCells (l ++ [c]) = Lib.byteCells l ++ [.int .u8 c.toNat] := by simp [Lib.byteCells]
  rw [e]; exact h1)) hk
theorem Cv_ {b : Nat} {l s : List UInt8} {K : AV → Bd → Prop} (hlen : l.length + s.length ≤ 140737488355328) (hk : ∀ r : Value, K (.val r) (some (b, l ++ s))) : gz_ Tryz.prog 179 5 217 [l8_ b, .val (.string (txt s))] (some (b, l)) K :=
 ky_ (vals := [.string (txt s)]) (r := .tuple #[.int .i64 (txt s).size, .nilIface]) (new := s) (fun B w h hB => (Any.Builder_WriteString_k Tryz.lays166 Tryz.Builder_Extra_166 B b (Lib.byteCells l) (txt s) w h (by rw [Lib.byteCells_length, b9_]; exact hlen) hB).mono (by
  rintro en w' ⟨rfl, h1, h2, _⟩
  refine ⟨rfl, .inr ?_, h2⟩
  have e : Lib.byteCells (l ++ s) = Lib.byteCells l ++ Lib.strCells (txt s) := by simp [Lib.byteCells, Lib.strCells, txt]
  rw [e]; exact h1)) (hk _)
theorem xz_ {b : Nat} {l : List UInt8} {K : AV → Bd → Prop} (hk : K (.val (.string (txt l))) (some (b, l))) : gz_ Tryz.prog 179 5 191 [l8_ b] (some (b, l)) K := by
 refine ky_ (vals := []) (r := .string (txt l)) (new := []) (fun B w h hB => (Any.Builder_String_any_k Tryz.lays169 Tryz.Builder_Extra_169 B b l w h hB).mono (by
  rintro en w' ⟨rfl, h1, h2, _⟩
  refine ⟨rfl, ?_, h2⟩
  rw [append_nil]; exact h1)) (by rw [append_nil]; exact hk)
theorem jb_ (s : List UInt8) (hs : s.length ≤ 1048576) (h : List Row) : aa_ Tryz.prog 218 [.val (.string (txt s)), .val (.string (txt [0])), .val (.string (txt [0, 255]))] h (.val (.string (txt (esc s)))) := by
 refine qP_ (vals := [.string (txt s), .string (txt [0]), .string (txt [0, 255])]) (fun w hM => ?_) h
 obtain ⟨m, hm⟩ := hM (Tryz.lays155_ren.g 1) (by kernel_rfl)
 have hc : Lib.countB (txt s) (txt [0]) ≤ s.length := by
  show Lib.count (txt s).data.toList (txt [0]).data.toList ≤ _
  rw [ca_, ca_, Lib.count_one]; exact count_le_length
 have := Any.strings_ReplaceAll Tryz.lays155 Tryz.Builder_Extra_155 (txt s) (txt [0]) (txt [0, 255]) m w (by rw [b9_]; omega) hm (by rw [b9_]; decide) (by rw [b9_, b9_]; simp only [lc_, ln_]; omega)
 rw [ca_, ca_, ca_, nq_] at this
 exact this
theorem yx_ (n k : Nat) (h : k < (be8 n).length) : (be8 n)[k] = dq_ n (7 - k) := by
 rw [d8_] at h
 rcases (by omega : k = 0 ∨ k = 1 ∨ k = 2 ∨ k = 3 ∨ k = 4 ∨ k = 5 ∨ k = 6 ∨ k = 7) with e | e | e | e | e | e | e | e <;> subst e <;> rfl
theorem o4_ (n k : Nat) (h : k < 8) : (be8 n).take (k + 1) = (be8 n).take k ++ [dq_ n (7 - k)] := by
 rw [take_succ_eq_append_getElem (by rw [d8_]; exact h), yx_]
theorem rz_ (n k : Nat) (h : k = 8) : (be8 n).take k = be8 n := by subst h; rfl
theorem z2_ (n k : Nat) (h : k < 8) : IntKind.u8.wrap ((n : Int).fdiv (2 ^ min (56 - 8 * (k : Int)).toNat 64)) = ((dq_ n (7 - k)).toNat : Int) := by
 have e : (56 - 8 * (k : Int)).toNat = (8 * ((7 - k : Nat) : Int)).toNat := by omega
 rw [e, pN_ _ _ (by omega), m3_]
def zN_ : LC :=
 .seq (.seq (.ops [.m 6 1, .c1 7 203 6]) (.cond (.tmp 7) (.seq (.ops [.m 8 1, .c1 9 205 8, .bk 10 .add false 9 1000000000000000000, .s 11 (.convInt .u64 (.tmp 10)), .m 4 11]) (.seq (.ops [.m 12 0, .s 13 (.call 216 [.tmp
 12, .const (.int .u8 1)])]) (.seq (.seq (.ops [.ki 5 56]) (.block 0 (.loop (.seq (.seq (.ops [.m 14 5, .bk 15 .geq false 14 0]) (.cond (.tmp 15) .skip (.exit 0))) (.seq (.block 1 (.ops [.m 18 0, .m 19 4, .m 20 5, .bb 21
 .shr false 19 20, .s 22 (.convInt .u8 (.tmp 21)), .c2 23 216 18 22])) (.ops [.m 16 5, .bk 17 .sub false 16 8, .m 5 17])))))) .ret))) .skip)) (.seq (.ops [.m 24 0, .s 25 (.call 216 [.tmp 24, .const (.int .u8 2)])]) (.seq
 (.ops [.m 26 0, .m 27 1, .s 28 (.call 218 [.tmp 27, .const (.string ⟨#[0]⟩), .const (.string ⟨#[0, 255]⟩)]), .c2 29 217 26 28]) (.ops [.m 30 0, .s 31 (.call 217 [.tmp 30, .const (.string ⟨#[0, 0]⟩)])])))
def wj_ : LF := ⟨2, 32, zN_, []⟩
theorem B2_ : at_ Tryz.prog Tryz.f190 wj_ := ai_
theorem oS_ {b : Nat} {l : List UInt8} {s : ByteArray} (hs : s.size ≤ 1048576) (hl : l.length ≤ 1000000000) {K : AV → Bd → Prop} (hk : K (.tup []) (some (b, l ++ cw_ (bs s)))) : gz_ Tryz.prog 179 5 190 [l8_ b, .val (.string s)] (some (b, l)) K := by
 refine mg_ (by decide) mixed Tryz.func190 B2_ rfl ?_
 simp (disch := omega) only [wj_, zN_, go_sem, ↓reduceIte]
 refine aa_.b rfl (dM_ s hs _) ?_
 have hbl : (bs s).length = s.size := fa_ s
 by_cases q : b4_ (bs s) = true
 ·simp (disch := omega) only [q, go_sem, Nat.reduceEqDiff, ↓reduceIte]
  refine aa_.b rfl (ez_ s hs _) ?_
  have hn := eF_ (bs s)
  have hq := it_ (bs s)
  have hq2 := iv_ (bs s)
  have hkey : cw_ (bs s) = 1 :: be8 (di_ (bs s)) := by unfold cw_; rw [if_pos q]
  rw [hkey] at hk
  simp (disch := omega) only [go_sem, reduceCtorEq, ↓reduceIte, aq_, ← hq, o6_]
  refine nb_ (c := 1) (by omega) ?_
  simp (disch := omega) only [go_sem]
  refine mb_ (fun n t σ => ∃ k : Nat, t 0 = l8_ b ∧ t 4 = .val (.int .u64 (di_ (bs s))) ∧ t 5 = .val (.int .i64 (56 - 8 * k)) ∧ σ = some (b, (l ++ [1]) ++ (be8 (di_ (bs s))).take k) ∧ n = 8 - k ∧ k ≤ 8) 8 ?_ ?_
  ·exact ⟨0, rfl, rfl, rfl, by simp, rfl, by omega⟩
  ·rintro J hJ n t σ ⟨k, t0, t4, t5, rfl, rfl, hk8⟩
   by_cases h8 : k < 8
   ·have hlt : (0 : Int) ≤ 56 - 8 * k := by omega
    have hlen : ((be8 (di_ (bs s))).take k).length ≤ 8 := by rw [length_take, d8_]; omega
    simp (disch := omega) only [t0, t4, t5, hlt, ng_, z2_, go_sem, Nat.reduceEqDiff, reduceCtorEq, ↓reduceIte]
    refine nb_ (by simp only [la_, lc_]; omega) ?_
    simp (disch := omega) only [t5, aq_, go_sem, Nat.reduceEqDiff, ↓reduceIte]
    exact ⟨8 - (k + 1), by omega, hJ _ _ _ ⟨k + 1, by simp [upd, t0], by simp [upd, t4], by simp [upd]; omega, by rw [o4_ _ _ h8]; simp, rfl, by omega⟩⟩
   ·have hlt : ¬ (0 : Int) ≤ 56 - 8 * k := by omega
    simp (disch := omega) only [t5, hlt, go_sem, ↓reduceIte]
    rw [rz_ _ _ (by omega)]
    simpa using hk
 ·have q' : b4_ (bs s) = false := by simpa using q
  have hkey : cw_ (bs s) = 2 :: (esc (bs s) ++ [0, 0]) := by unfold cw_; rw [if_neg q]
  have he := jM_ (bs s)
  rw [hkey] at hk
  simp (disch := omega) only [q', go_sem, reduceCtorEq, ↓reduceIte]
  refine nb_ (c := 2) (by omega) ?_
  simp (disch := omega) only [go_sem, Nat.reduceEqDiff, reduceCtorEq, ↓reduceIte]
  refine aa_.b rfl (by
   have := jb_ (bs s) (by omega) []
   rw [eA_] at this
   exact this) ?_
  simp (disch := omega) only [go_sem, Nat.reduceEqDiff, ↓reduceIte]
  refine Cv_ (by simp only [la_, lc_, ln_]; omega) (fun r1 => ?_)
  simp (disch := omega) only [go_sem, reduceCtorEq, ↓reduceIte]
  refine Cv_ (by simp only [la_, lc_, ln_]; omega) (fun r2 => ?_)
  simp (disch := omega) only [go_sem]
  simpa using hk
def i0_ (xs : List ByteArray) : List UInt8 := if bh_ xs = true then cU_ (bss xs) else []
theorem qf_ (xs ys : List (List UInt8)) : cU_ (xs ++ ys) = cU_ xs ++ cU_ ys := by simp [cU_]
theorem eH_ {xs : List ByteArray} (h : bh_ xs = true) : xs.length ≤ 4 ∧ ∀ x ∈ xs, 1 ≤ x.size ∧ x.size ≤ 24 := by
 simp only [bh_, Bool.and_eq_true, decide_eq_true_eq, all_eq_true, bR_] at h
 exact ⟨by omega, fun x hx => by have := h.2 x hx; omega⟩
theorem jv_ : ∀ (xs : List ByteArray), (∀ x ∈ xs, x.size ≤ 24) → (cU_ (bss xs)).length ≤ 57 * xs.length
 | [], _ => by simp [cU_, bss]
 | x :: xs, h => by
  have h1 := j6_ (bs x)
  have h2 := jv_ xs (fun y hy => h y (mem_cons_of_mem _ hy))
  have h3 := h x mem_cons_self
  rw [fa_] at h1
  rw [bss, map_cons, on_, la_, lc_]
  simp only [bss] at h2
  simp only [bs] at h1
  omega
def Dz_ : LC :=
 .seq (.ops [.s 2 (.mov (.const (.string ⟨#[]⟩)))]) (.seq (.seq (.ops [.m 6 0, .c1 7 143 6, .nt 8 7]) (.cond (.tmp 8) (.seq (.ops [.s 2 (.mov (.const (.string ⟨#[]⟩)))]) .ret) .skip)) (.seq (.ops [.s 3 (.alloc 179 (.agg
 #[.pointer none, .slice none 0 0]))]) (.seq (.seq (.ops [.m 9 0, .ll 10 9, .ki 11 0]) (.block 0 (.loop (.seq (.ops [.bb 12 .lss false 11 10]) (.seq (.cond (.tmp 12) .skip (.exit 0)) (.seq (.block 1 (.seq (.ops [.ia 13 1
 9 11, .ln 14 13, .m 5 14]) (.ops [.m 15 5, .c2 16 190 3 15]))) (.ops [.bk 17 .add false 11 1, .m 11 17]))))))) (.seq (.ops [.c1 18 191 3, .m 2 18]) .ret))))
def wW_ : LF := ⟨1, 19, Dz_, [.tmp 2]⟩
theorem AM_ : at_ Tryz.prog Tryz.f153 wW_ := ai_
theorem iJ_ (xs : List ByteArray) (hx : xs.length ≤ 1048576) (h : List Row) : aa_ Tryz.prog 153 [.list 0 1 (xs.map am_)] h (.val (.string (txt (i0_ xs)))) := by
 refine j7_ (T := 179) (e := 5) rfl rfl ?_ h
 refine mg_ (by decide) mixed Tryz.func153 AM_ rfl ?_
 simp (disch := omega) only [wW_, Dz_, go_sem, reduceCtorEq, ↓reduceIte]
 refine aa_.b rfl (cc_ xs hx _) ?_
 by_cases q : bh_ xs = true
 case neg =>
  have q' : bh_ xs = false := by simpa using q
  simp (disch := omega) only [q', go_sem, ↓reduceIte]
  rw [i0_, if_neg q]
 obtain ⟨h4, hm⟩ := eH_ q
 have hz : pW_ = .agg #[.pointer none, .slice none 0 0] := rfl
 simp (disch := omega) only [q, ← hz, go_sem, reduceCtorEq, ↓reduceIte]
 refine fun b => ?_
 refine mb_ (fun n t σ => ∃ k : Nat, t 3 = l8_ b ∧ t 9 = .list 0 1 (xs.map am_) ∧ t 10 = .val (.int .i64 xs.length) ∧ t 11 = .val (.int .i64 k) ∧ σ = some (b, cU_ (bss (xs.take k))) ∧ n = xs.length - k ∧ k ≤ xs.length) xs.length ?_ ?_
 ·exact ⟨0, rfl, rfl, rfl, rfl, rfl, rfl, by omega⟩
 ·rintro J hJ n t σ ⟨k, t3, t9, t10, t11, rfl, rfl, hk⟩
  by_cases hlt : k < xs.length
  ·have hl1 := jv_ (xs.take k) (fun x hx' => (hm x (mem_of_mem_take hx')).2)
   have hl2 : (xs.take k).length ≤ 4 := by rw [length_take]; omega
   simp (disch := omega) only [t3, t9, t10, t11, hlt, go_sem, Nat.reduceEqDiff, ↓reduceIte]
   refine oS_ (by have := hm _ (getElem_mem hlt); omega) (by omega) ?_
   simp (disch := omega) only [t11, aq_, go_sem, Nat.reduceEqDiff, ↓reduceIte]
   refine ⟨xs.length - (k + 1), by omega, hJ _ _ _ ⟨k + 1, by simp [upd, t3], by simp [upd, t9], by simp [upd, t10], by simp [upd], ?_, rfl, by omega⟩⟩
   rw [take_succ_eq_append_getElem hlt, bss, bss, map_append, qf_]
   simp [cU_]
  ·simp (disch := omega) only [t3, t10, t11, hlt, go_sem, Nat.reduceEqDiff, ↓reduceIte]
   rw [take_of_length_le (by omega)]
   refine xz_ ?_
   simp (disch := omega) only [go_sem, ↓reduceIte]
   rw [i0_, if_pos q]
def kq_ : Option (List UInt8 × List UInt8) → AV
 | some (t, r) => .tup [.val (.string (txt t)), .val (.string (txt r)), .val (.bool true)]
 | none => .tup [.val (.string (txt [])), .val (.string (txt [])), .val (.bool false)]
def A4_ : LC :=
 .seq (.ops [.s 2 (.mov (.const (.string ⟨#[]⟩))), .s 3 (.mov (.const (.string ⟨#[]⟩))), .s 4 (.mov (.const (.bool false)))]) (.seq (.ops [.s 5 (.alloc 179 (.agg #[.pointer none, .slice none 0 0]))]) (.seq (.seq (.ops
 [.ki 6 0]) (.block 0 (.loop (.seq (.seq (.ops [.m 7 6, .bk 8 .add false 7 1, .m 9 0, .s 10 (.lenStr (.tmp 9)), .bb 11 .lss false 8 10]) (.cond (.tmp 11) .skip (.exit 0))) (.seq (.block 1 (.seq (.seq (.ops [.m 14 0, .m 15
 6, .s 16 (.indexStr (.tmp 14) (.tmp 15)), .s 17 (.bin .neq false (.tmp 16) (.const (.int .u8 0)))]) (.cond (.tmp 17) (.seq (.ops [.m 18 0, .m 19 6, .s 20 (.indexStr (.tmp 18) (.tmp 19)), .c2 21 216 5 20]) (.exit 1))
 .skip)) (.seq (.ops [.m 22 0, .m 23 6, .bk 24 .add false 23 1, .s 25 (.indexStr (.tmp 22) (.tmp 24))]) (.block 2 (.seq (.ops [.s 27 (.bin .eql false (.tmp 25) (.const (.int .u8 0))), .m 26 27]) (.cond (.tmp 26) (.seq
 (.dops [.c1 28 191 5, .m 29 0, .m 30 6, .bk 31 .add false 30 2, .s 32 (.sliceStr (.tmp 29) (some (.tmp 31)) none), .m 2 28, .m 3 32, .s 4 (.mov (.const (.bool true)))]) .ret) (.seq (.ops [.s 34 (.bin .eql false (.tmp 25)
 (.const (.int .u8 255))), .m 33 34]) (.cond (.tmp 33) (.seq (.ops [.s 35 (.call 216 [.tmp 5, .const (.int .u8 0)])]) (.ops [.m 36 6, .bk 37 .add false 36 1, .m 6 37])) (.seq (.ops [.s 2 (.mov (.const (.string ⟨#[]⟩))),
 .s 3 (.mov (.const (.string ⟨#[]⟩))), .s 4 (.mov (.const (.bool false)))]) .ret))))))))) (.ops [.m 12 6, .bk 13 .add false 12 1, .m 6 13])))))) (.seq (.ops [.s 2 (.mov (.const (.string ⟨#[]⟩))), .s 3 (.mov (.const
 (.string ⟨#[]⟩))), .s 4 (.mov (.const (.bool false)))]) .ret)))
def wX_ : LF := ⟨1, 38, A4_, [.tmp 2, .tmp 3, .tmp 4]⟩
theorem AW_ : at_ Tryz.prog Tryz.f208 wX_ := ai_
theorem lk_ (l : List UInt8) (hl : l.length ≤ 1048576) (h : List Row) : aa_ Tryz.prog 208 [.val (.string (txt l))] h (kq_ (cs_ l [])) := by
 refine j7_ (T := 179) (e := 5) (by cases cs_ l [] <;> rfl) rfl ?_ h
 refine mg_ (by decide) mixed Tryz.func208 AW_ rfl ?_
 have hz : pW_ = .agg #[.pointer none, .slice none 0 0] := rfl
 simp (disch := omega) only [wX_, A4_, ← hz, go_sem]
 refine fun b => ?_
 refine mb_ (fun n t σ => ∃ (i : Nat) (acc : List UInt8), t 0 = .val (.string (txt l)) ∧ t 5 = l8_ b ∧ t 6 = .val (.int .i64 i) ∧ σ = some (b, acc) ∧ n = l.length - i ∧ i ≤ l.length ∧ acc.length ≤ i ∧ cs_ l [] = cs_ (l.drop i) acc) l.length ?_ ?_
 ·exact ⟨0, [], rfl, rfl, rfl, rfl, rfl, by omega, Nat.le_refl _, rfl⟩
 ·rintro J hJ n t σ ⟨i, acc, t0, t5, t6, rfl, rfl, hi, hac, hS⟩
  by_cases hlt : i + 1 < l.length
  ·have hlt' : (i : Int) + 1 < l.length := by omega
   have hlt0 : i < l.length := by omega
   have ei : (i : Int) + 1 = ((i + 1 : Nat) : Int) := by omega
   have ei2 : (i : Int) + 2 = ((i + 2 : Nat) : Int) := by omega
   rw [mn_ l acc i hlt] at hS
   by_cases q : l[i] = 0
   ·rw [if_pos q] at hS
    have q' : ((l[i].toNat : Int) = 0) = True := by simp [q]
    by_cases q1 : l[i + 1] = 0
    ·rw [if_pos q1] at hS
     have q1' : ((l[i + 1].toNat : Int) = 0) = True := by simp [q1]
     simp (disch := omega) only [t0, t5, t6, ei, ei2, hlt, q', q1', aq_, go_sem, Nat.reduceEqDiff, reduceCtorEq, ↓reduceIte]
     refine ⟨_, xz_ ⟨rfl, rfl⟩, ?_⟩
     rw [hS, take_length]; rfl
    ·rw [if_neg q1] at hS
     have q1' : ((l[i + 1].toNat : Int) = 0) = False := by rw [eq_iff_iff, iff_false]; intro e; exact q1 (UInt8.toNat_inj.1 (by have h2 : (0 : UInt8).toNat = 0 := rfl; omega))
     by_cases q2 : l[i + 1] = 255
     ·rw [if_pos q2] at hS
      have q2' : ((l[i + 1].toNat : Int) = 255) = True := by simp [q2]
      simp (disch := omega) only [t0, t5, t6, ei, hlt, q', q1', q2', aq_, go_sem, Nat.reduceEqDiff, reduceCtorEq, ↓reduceIte]
      refine nb_ (c := 0) (by omega) ?_
      simp (disch := omega) only [t6, ei, aq_, go_sem, Nat.reduceEqDiff, ↓reduceIte]
      exact ⟨l.length - (i + 2), by omega, hJ _ _ _ ⟨i + 2, acc ++ [0], by simp [upd, t0], by simp [upd, t5], by simp [upd]; omega, rfl, rfl, by omega, by simp; omega, hS⟩⟩
     ·rw [if_neg q2] at hS
      have q2' : ((l[i + 1].toNat : Int) = 255) = False := by rw [eq_iff_iff, iff_false]; intro e; exact q2 (UInt8.toNat_inj.1 (by have h2 : (255 : UInt8).toNat = 255 := rfl; omega))
      simp (disch := omega) only [t0, t6, ei, hlt, q', q1', q2', aq_, go_sem, Nat.reduceEqDiff, reduceCtorEq, ↓reduceIte]
      rw [hS]; rfl
   ·rw [if_neg q] at hS
    have q' : ((l[i].toNat : Int) = 0) = False := by rw [eq_iff_iff, iff_false]; intro e; exact q (UInt8.toNat_inj.1 (by have h2 : (0 : UInt8).toNat = 0 := rfl; omega))
    simp (disch := omega) only [t0, t5, t6, ei, hlt, q', aq_, go_sem, Nat.reduceEqDiff, reduceCtorEq, ↓reduceIte]
    refine nb_ (c := l[i]) (by omega) ?_
    simp (disch := omega) only [t6, ei, aq_, go_sem, Nat.reduceEqDiff, ↓reduceIte]
    exact ⟨l.length - (i + 1), by omega, hJ _ _ _ ⟨i + 1, acc ++ [l[i]], by simp [upd, t0], by simp [upd, t5], by simp [upd]; try omega, rfl, rfl, by omega, by simp; omega, hS⟩⟩
  ·have hlt' : ¬ (i : Int) + 1 < l.length := by omega
   simp (disch := omega) only [t0, t6, hlt', aq_, go_sem, Nat.reduceEqDiff, reduceCtorEq, ↓reduceIte]
   rw [hS, om_ l acc i (by omega)]; rfl
def nf_ (l : List UInt8) : Option (List UInt8 × List UInt8) := if l.length < 8 then none else if 2000000000000000000 < cr_ 0 (l.take 8) then none else some (gP_ ((cr_ 0 (l.take 8) : Int) - 1000000000000000000), l.drop 8)
theorem EJ_ (q : Bool) (a : Int) : bf_ .shl q (.val (.int .u64 a)) (.val (.int .u64 8)) = some (.val (.int .u64 (IntKind.u64.wrap (a * 256)))) := by
 rw [rq_ _ _ _ _ _ (by decide)]; rfl
theorem nX_ (l : List UInt8) (k : Nat) (h : k < l.length) : cr_ 0 (l.take (k + 1)) = cr_ 0 (l.take k) * 256 + l[k].toNat := by
 rw [take_succ_eq_append_getElem h, tZ_]
theorem kB_ (l : List UInt8) (k : Nat) (h : k ≤ 7) : cr_ 0 (l.take k) < 72057594037927936 := by
 have h1 := nK_ (l.take k) 0
 have h2 : (l.take k).length ≤ 7 := by rw [length_take]; omega
 have h3 : 256 ^ (l.take k).length ≤ 256 ^ 7 := Nat.pow_le_pow_right (by decide) h2
 omega
theorem kc_ (l : List UInt8) : cr_ 0 (l.take 8) < 18446744073709551616 := by
 have h1 := nK_ (l.take 8) 0
 have h2 : (l.take 8).length ≤ 8 := by rw [length_take]; omega
 have h3 : 256 ^ (l.take 8).length ≤ 256 ^ 8 := Nat.pow_le_pow_right (by decide) h2
 omega
theorem rL_ (n : Int) : fc_ n = gP_ n := by
 unfold fc_ gP_
 by_cases h : jf_ n = true
 ·rw [if_pos h, if_pos ((hL_ n).1 h)]
 ·rw [if_neg h, if_neg (fun q => h ((hL_ n).2 q))]
def AQ_ : LC :=
 .seq (.ops [.s 2 (.mov (.const (.string ⟨#[]⟩))), .s 3 (.mov (.const (.string ⟨#[]⟩))), .s 4 (.mov (.const (.bool false)))]) (.seq (.seq (.ops [.m 7 0, .s 8 (.lenStr (.tmp 7)), .bk 9 .lss false 8 8]) (.cond (.tmp 9)
 (.seq (.ops [.s 2 (.mov (.const (.string ⟨#[]⟩))), .s 3 (.mov (.const (.string ⟨#[]⟩))), .s 4 (.mov (.const (.bool false)))]) .ret) .skip)) (.seq (.ops [.s 5 (.mov (.const (.int .u64 0)))]) (.seq (.seq (.ops [.ki 10 0])
 (.block 0 (.loop (.seq (.ops [.bk 11 .lss false 10 8]) (.seq (.cond (.tmp 11) .skip (.exit 0)) (.seq (.block 1 (.seq (.ops [.m 12 10, .m 6 12]) (.ops [.m 13 5, .s 14 (.bin .shl false (.tmp 13) (.const (.int .u64 8))), .m
 15 0, .m 16 6, .s 17 (.indexStr (.tmp 15) (.tmp 16)), .s 18 (.convInt .u64 (.tmp 17)), .bb 19 .add false 14 18, .m 5 19]))) (.ops [.bk 20 .add false 10 1, .m 10 20]))))))) (.seq (.seq (.ops [.m 21 5, .s 22 (.bin .gtr
 false (.tmp 21) (.const (.int .u64 2000000000000000000)))]) (.cond (.tmp 22) (.seq (.ops [.s 2 (.mov (.const (.string ⟨#[]⟩))), .s 3 (.mov (.const (.string ⟨#[]⟩))), .s 4 (.mov (.const (.bool false)))]) .ret) .skip))
 (.seq (.dops [.m 23 5, .s 24 (.convInt .i64 (.tmp 23)), .bk 25 .sub false 24 1000000000000000000, .c1 26 224 25, .m 27 0, .s 28 (.sliceStr (.tmp 27) (some (.const (.int .i64 8))) none), .m 2 26, .m 3 28, .s 4 (.mov
 (.const (.bool true)))]) .ret)))))
def xK_ : LF := ⟨1, 29, AQ_, [.tmp 2, .tmp 3, .tmp 4]⟩
theorem Bs_ : at_ Tryz.prog Tryz.f207 xK_ := ai_
theorem lo_ (l : List UInt8) (hl : l.length ≤ 1048576) (h : List Row) : aa_ Tryz.prog 207 [.val (.string (txt l))] h (kq_ (nf_ l)) := by
 refine aj_ mixed Tryz.func207 Bs_ rfl rfl ?_ h
 simp (disch := omega) only [xK_, AQ_, go_sem, reduceCtorEq, ↓reduceIte]
 by_cases h8 : (l.length : Int) < 8
 ·simp (disch := omega) only [h8, go_sem, Nat.reduceEqDiff, ↓reduceIte]
  rw [nf_, if_pos (by omega)]
  exact ⟨2, rfl⟩
 simp (disch := omega) only [h8, go_sem]
 refine aL_ (fun n t h => ∃ k : Nat, t 0 = .val (.string (txt l)) ∧ t 5 = .val (.int .u64 (cr_ 0 (l.take k))) ∧ t 10 = .val (.int .i64 k) ∧ h = [] ∧ n = 8 - k ∧ k ≤ 8) 8 ?_ ?_
 ·exact ⟨0, rfl, rfl, rfl, rfl, rfl, by omega⟩
 rintro J hJ n t h ⟨k, t0, t5, t10, rfl, rfl, hk⟩
 by_cases hlt : k < 8
 ·have hkl : k < l.length := by omega
  have hkI : (k : Int) < 8 := by omega
  have hb := kB_ l k (by omega)
  have hu := mI_ l[k]
  simp (disch := omega) only [t0, t5, t10, hkI, EJ_, vc_, o6_, aq_, go_sem, Nat.reduceEqDiff, reduceCtorEq, ↓reduceIte]
  exact ⟨8 - (k + 1), by omega, hJ _ _ _ ⟨k + 1, by simp [upd, t0], by simp only [upd]; rw [nX_ l k hkl]; simp, by simp [upd], rfl, rfl, by omega⟩⟩
 ·have hk8 : k = 8 := by omega
  have hkI : ¬ (k : Int) < 8 := by omega
  rw [hk8] at t5
  have hb := kc_ l
  by_cases hg : (2000000000000000000 : Int) < (cr_ 0 (l.take 8) : Nat)
  ·simp (disch := omega) only [t5, t10, hkI, hg, go_sem, Nat.reduceEqDiff, ↓reduceIte]
   rw [nf_, if_neg (by omega), if_pos (by omega)]
   exact ⟨2, rfl⟩
  ·simp (disch := omega) only [t0, t5, t10, hkI, hg, aq_, go_sem, Nat.reduceEqDiff, reduceCtorEq, Int.reduceLE, Int.reduceToNat, ↓reduceIte]
   refine aa_.q (iF_ _ _) ?_
   rw [nf_, if_neg (by omega), if_neg (by omega), rL_, take_length]
   exact ⟨2, rfl⟩
end Go.Proofs.YtfplhbjggecnpaaGreatDoor
