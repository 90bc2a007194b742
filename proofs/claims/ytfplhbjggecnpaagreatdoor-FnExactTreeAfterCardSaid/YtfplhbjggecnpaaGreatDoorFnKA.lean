/-
 Contracts of functions of this program, over abstract values. Conditions: as each theorem says.
-/
import Derived.Test.YtfplhbjggecnpaaGreatDoorFnO
import Derived.Test.YtfplhbjggecnpaaGreatDoorAwC
import Derived.Test.YtfplhbjggecnpaaGreatDoorPlNum
import Derived.Test.YtfplhbjggecnpaaGreatDoorPlKey
namespace Go.Proofs.YtfplhbjggecnpaaGreatDoor
open List
open Go.AW
set_option linter.unusedVariables false
set_option linter.unusedSimpArgs false
set_option maxRecDepth 4000
def v4_ : LC :=
 .seq (.ops [.s 4 (.mov (.const (.bool false)))]) (.seq (.seq (.ops [.m 6 0, .ll 7 6, .m 8 1, .ll 9 8, .bb 10 .neq false 7 9]) (.cond (.tmp 10) (.seq (.ops [.s 4 (.mov (.const (.bool false)))]) .ret) .skip)) (.seq (.seq
 (.ops [.m 11 0, .ll 12 11, .ki 13 0]) (.block 0 (.loop (.seq (.ops [.bb 14 .lss false 13 12]) (.seq (.cond (.tmp 14) .skip (.exit 0)) (.seq (.block 1 (.seq (.ops [.m 15 13, .m 5 15]) (.seq (.dops [.m 16 0, .m 17 5, .ia
 18 1 16 17, .ln 19 18, .m 20 1, .m 21 5, .ia 22 1 20 21, .ln 23 22, .bb 24 .neq false 19 23]) (.cond (.tmp 24) (.seq (.ops [.s 4 (.mov (.const (.bool false)))]) .ret) .skip)))) (.ops [.bk 25 .add false 13 1, .m 13
 25]))))))) (.seq (.ops [.s 4 (.mov (.const (.bool true)))]) .ret)))
def sR_ : LF := ⟨2, 26, v4_, [.tmp 4]⟩
theorem Cg_ : at_ Tryz.prog Tryz.f147 sR_ := ai_
def uL_ : LC :=
 .seq (.ops [.s 4 (.mov (.const (.bool false)))]) (.seq (.seq (.ops [.m 6 0, .ll 7 6, .m 8 1, .ll 9 8, .bb 10 .gtr false 7 9]) (.cond (.tmp 10) (.seq (.ops [.s 4 (.mov (.const (.bool false)))]) .ret) .skip)) (.seq (.seq
 (.ops [.ki 5 0]) (.block 0 (.loop (.seq (.seq (.ops [.m 11 5, .m 12 0, .ll 13 12, .bb 14 .lss false 11 13]) (.cond (.tmp 14) .skip (.exit 0))) (.seq (.block 1 (.seq (.dops [.m 17 0, .m 18 5, .ia 19 1 17 18, .ln 20 19, .m
 21 1, .m 22 5, .ia 23 1 21 22, .ln 24 23, .bb 25 .neq false 20 24]) (.cond (.tmp 25) (.seq (.ops [.s 4 (.mov (.const (.bool false)))]) .ret) .skip))) (.ops [.m 15 5, .bk 16 .add false 15 1, .m 5 16])))))) (.seq (.ops [.s
 4 (.mov (.const (.bool true)))]) .ret)))
def r2_ : LF := ⟨2, 26, uL_, [.tmp 4]⟩
theorem Dn_ : at_ Tryz.prog Tryz.f164 r2_ := ai_
abbrev bs (s : ByteArray) : List UInt8 := s.data.toList
abbrev bss (xs : List ByteArray) : List (List UInt8) := xs.map fun s => s.data.toList
theorem eA_ (s : ByteArray) : txt s.data.toList = s := (pY_ s).symm
theorem e5_ (s : ByteArray) : s.data.toList.length = s.size := by rw [Array.length_toList]; rfl
theorem my_ (a b : ByteArray) : (a.data.toList = b.data.toList) = (a = b) := by
 apply propext; constructor
 ·intro h; rw [← eA_ a, ← eA_ b, h]
 ·intro h; rw [h]
theorem ro_ (a b : List ByteArray) : bss a = bss b ↔ a = b := by
 constructor
 ·intro h
  have : (bss a).map txt = (bss b).map txt := by rw [h]
  simpa [bss, map_map, Function.comp_def, eA_] using this
 ·intro h; rw [h]
theorem dL_ (s : ByteArray) (hs : s.size ≤ 1048576) (h : List Row) : aa_ Tryz.prog 203 [.val (.string s)] h (.val (.bool (b1_ s.data.toList))) := by
 have := mD_ s.data.toList (by rw [e5_]; omega) h
 rwa [eA_] at this
theorem er_ (s : ByteArray) (hs : s.size ≤ 1048576) (h : List Row) : aa_ Tryz.prog 205 [.val (.string s)] h (.val (.int .i64 (bU_ s.data.toList))) := by
 have := kc_ s.data.toList (by rw [e5_]; omega) h
 rwa [eA_] at this
def eqS (s t : ByteArray) : Bool := decide (s = t)
def bm_ (xs ys : List ByteArray) : Bool := eT_ eqS xs ys
theorem dd_ (xs ys : List ByteArray) (hx : xs.length ≤ 1048576) (h : List Row) : aa_ Tryz.prog 147 [.list 0 1 (xs.map am_), .list 0 1 (ys.map am_)] h (.val (.bool (bm_ xs ys))) := by
 refine aj_ mixed Tryz.func147 Cg_ rfl rfl ?_ h
 by_cases hl : xs.length = ys.length
 ·have hl' : ((xs.length : Int) = (ys.length : Int)) = True := by simp [hl]
  simp (disch := omega) only [sR_, v4_, hl', ag_, go_sem, Nat.reduceEqDiff, reduceCtorEq, ↓reduceIte]
  refine aL_ (fun n t h => ∃ k : Nat, t 0 = .list 0 1 (xs.map am_) ∧ t 1 = .list 0 1 (ys.map am_) ∧ t 12 = .val (.int .i64 xs.length) ∧ t 13 = .val (.int .i64 k) ∧ h = [] ∧ n = xs.length - k ∧ k ≤ xs.length ∧ bm_ xs ys = eT_ eqS (xs.drop k) (ys.drop k)) xs.length ?_ ?_
  ·exact ⟨0, rfl, rfl, rfl, rfl, rfl, rfl, Nat.zero_le _, rfl⟩
  ·rintro J hJ n t h ⟨k, t0, t1, t12, t13, rfl, rfl, hk, hS⟩
   by_cases hlt : k < xs.length
   ·have hlt2 : k < ys.length := by omega
    rw [k6_ eqS xs ys k hlt hlt2] at hS
    by_cases e : xs[k] = ys[k]
    ·simp (disch := omega) only [t0, t1, t12, t13, hlt, e, ag_, go_sem, Nat.reduceEqDiff, reduceCtorEq, ↓reduceIte, ar_]
     exact ⟨xs.length - (k + 1), by omega, hJ _ _ _ ⟨k + 1, by simp [upd, t0], by simp [upd, t1], by simp [upd, t12], by simp [upd], rfl, rfl, by omega, by rw [hS]; simp [eqS, e]⟩⟩
    ·simp (disch := omega) only [t0, t1, t12, t13, hlt, e, ag_, go_sem, Nat.reduceEqDiff, reduceCtorEq, ↓reduceIte, ar_]
     exact ae_ (by rw [hS]; simp [eqS, e])
   ·simp (disch := omega) only [t0, t1, t12, t13, hlt, ag_, go_sem, Nat.reduceEqDiff, reduceCtorEq, ↓reduceIte, ar_]
    exact ae_ (by rw [hS, lX_ _ _ _ _ (by omega) (by omega)])
 ·have hl' : ((xs.length : Int) = (ys.length : Int)) = False := by simp; omega
  simp (disch := omega) only [sR_, v4_, hl', ag_, go_sem, Nat.reduceEqDiff, reduceCtorEq, ↓reduceIte]
  exact ae_ (by rw [bm_, g4_ _ _ _ hl])
def cZ_ (xs ys : List ByteArray) : Bool := decide (xs.length ≤ ys.length) && eT_ eqS xs (ys.take xs.length)
theorem ll_ (xs ys : List ByteArray) (hx : xs.length ≤ 1048576) (h : List Row) : aa_ Tryz.prog 164 [.list 0 1 (xs.map am_), .list 0 1 (ys.map am_)] h (.val (.bool (cZ_ xs ys))) := by
 refine aj_ mixed Tryz.func164 Dn_ rfl rfl ?_ h
 by_cases hl : ys.length < xs.length
 ·simp (disch := omega) only [r2_, uL_, hl, ag_, go_sem, Nat.reduceEqDiff, reduceCtorEq, ↓reduceIte]
  exact ae_ (by simp [cZ_]; omega)
 ·simp (disch := omega) only [r2_, uL_, hl, ag_, go_sem, Nat.reduceEqDiff, reduceCtorEq, ↓reduceIte]
  have hT : (ys.take xs.length).length = xs.length := by simp; omega
  refine aL_ (fun n t h => ∃ k : Nat, t 0 = .list 0 1 (xs.map am_) ∧ t 1 = .list 0 1 (ys.map am_) ∧ t 5 = .val (.int .i64 k) ∧ h = [] ∧ n = xs.length - k ∧ k ≤ xs.length ∧ cZ_ xs ys = eT_ eqS (xs.drop k) ((ys.take xs.length).drop k)) xs.length ?_ ?_
  ·exact ⟨0, rfl, rfl, rfl, rfl, rfl, Nat.zero_le _, by simp [cZ_]; omega⟩
  ·rintro J hJ n t h ⟨k, t0, t1, t5, rfl, rfl, hk, hS⟩
   by_cases hlt : k < xs.length
   ·have hlt2 : k < ys.length := by omega
    rw [k6_ eqS xs _ k hlt (by omega)] at hS
    have hg : (ys.take xs.length)[k]'(by omega) = ys[k] := by simp
    rw [hg] at hS
    by_cases e : xs[k] = ys[k]
    ·simp (disch := omega) only [t0, t1, t5, hlt, e, ag_, go_sem, Nat.reduceEqDiff, reduceCtorEq, ↓reduceIte, ar_]
     exact ⟨xs.length - (k + 1), by omega, hJ _ _ _ ⟨k + 1, by simp [upd, t0], by simp [upd, t1], by simp [upd], rfl, rfl, by omega, by rw [hS]; simp [eqS, e]⟩⟩
    ·simp (disch := omega) only [t0, t1, t5, hlt, e, ag_, go_sem, Nat.reduceEqDiff, reduceCtorEq, ↓reduceIte, ar_]
     exact ae_ (by rw [hS]; simp [eqS, e])
   ·simp (disch := omega) only [t0, t1, t5, hlt, ag_, go_sem, Nat.reduceEqDiff, reduceCtorEq, ↓reduceIte, ar_]
    exact ae_ (by rw [hS, lX_ _ _ _ _ (by omega) (by omega)])
theorem rf_ (xs ys : List ByteArray) (h : xs.length = ys.length) : cZ_ xs ys = bm_ xs ys := by
 simp [cZ_, bm_, h, take_of_length_le]
def ej_ (b : Int) : Bool := decide (97 ≤ b) && decide (b ≤ 122) || decide (65 ≤ b) && decide (b ≤ 90)
def ge_ (b : Int) : Bool := decide (48 ≤ b) && decide (b ≤ 57)
def bQ_ (s : ByteArray) : Bool := decide (1 ≤ (s.size : Int)) && decide ((s.size : Int) ≤ 24)
def AJ_ : LC :=
 .seq (.ops [.s 2 (.mov (.const (.bool false)))]) (.seq (.ops [.m 3 0, .s 4 (.bin .leq false (.const (.int .u8 97)) (.tmp 3)), .m 5 4, .g 6 5 true (.mov (.tmp 0)), .g 7 5 true (.bin .leq false (.tmp 6) (.const (.int .u8
 122))), .pf 8 5 7, .m 9 8, .g 10 9 false (.mov (.tmp 0)), .g 11 9 false (.bin .leq false (.const (.int .u8 65)) (.tmp 10)), .g 12 9 false (.mov (.tmp 11)), .g 13 12 true (.mov (.tmp 0)), .g 14 12 true (.bin .leq false
 (.tmp 13) (.const (.int .u8 90))), .g 15 9 false (.pick (.tmp 12) (.tmp 14) (.const (.bool false))), .pt 16 9 15, .m 2 16]) .ret)
def wu_ : LF := ⟨1, 17, AJ_, [.tmp 2]⟩
theorem At_ : at_ Tryz.prog Tryz.f175 wu_ := ai_
theorem eK_ (b : Int)  (h : List Row) : aa_ Tryz.prog 175 [.val (.int .u8 b)] h (.val (.bool (ej_ b))) := by
 refine aj_ mixed Tryz.func175 At_ rfl rfl ?_ h
 simp (disch := omega) only [wu_, AJ_, go_sem, reduceCtorEq, ↓reduceIte]
 repeat' (first
  | exact af_ _ _
  | (refine ae_ ?_; first | rfl | (simp only [ej_, *, Bool.true_and, Bool.and_false, Bool.false_and, Bool.true_or, Bool.false_or, decide_true, decide_false, Bool.and_self, Bool.or_self]; done) | (simp [ej_, *]; done))
  | simp (disch := omega) only [go_sem, Nat.reduceEqDiff, reduceCtorEq, ↓reduceIte]
  | ((first | (apply aT_; assumption) | (apply aS_; assumption) | (apply a8_; assumption) | (apply a9_; assumption)); intro hb; try simp only [hb])
  | ((first | (apply aF_; assumption) | (apply aE_; assumption) | (apply aO_; assumption) | (apply aN_; assumption)); intro hb; try simp only [hb])
  | ((first | apply az_ | apply aC_ | apply ak_ | apply an_) <;> intro hb <;> (try simp only [hb]) <;> (first | have hp := aV_ hb | have hp := aW_ hb | have hp := aX_ hb | have hp := aU_ hb | skip)))
def AG_ : LC :=
 .seq (.ops [.s 2 (.mov (.const (.bool false)))]) (.seq (.ops [.m 3 0, .s 4 (.bin .geq false (.tmp 3) (.const (.int .u8 97))), .m 5 4, .g 6 5 true (.mov (.tmp 0)), .g 7 5 true (.bin .leq false (.tmp 6) (.const (.int .u8
 122))), .pf 8 5 7, .m 9 8, .g 10 9 false (.mov (.tmp 0)), .g 11 9 false (.bin .geq false (.tmp 10) (.const (.int .u8 65))), .g 12 9 false (.mov (.tmp 11)), .g 13 12 true (.mov (.tmp 0)), .g 14 12 true (.bin .leq false
 (.tmp 13) (.const (.int .u8 90))), .g 15 9 false (.pick (.tmp 12) (.tmp 14) (.const (.bool false))), .pt 16 9 15, .m 2 16]) .ret)
def xf_ : LF := ⟨1, 17, AG_, [.tmp 2]⟩
theorem Bg_ : at_ Tryz.prog Tryz.f219 xf_ := ai_
theorem c0_ (b : Int)  (h : List Row) : aa_ Tryz.prog 219 [.val (.int .u8 b)] h (.val (.bool (ej_ b))) := by
 refine aj_ mixed Tryz.func219 Bg_ rfl rfl ?_ h
 simp (disch := omega) only [xf_, AG_, go_sem, reduceCtorEq, ↓reduceIte]
 repeat' (first
  | exact af_ _ _
  | (refine ae_ ?_; first | rfl | (simp only [ej_, *, Bool.true_and, Bool.and_false, Bool.false_and, Bool.true_or, Bool.false_or, decide_true, decide_false, Bool.and_self, Bool.or_self]; done) | (simp [ej_, *]; done))
  | simp (disch := omega) only [go_sem, Nat.reduceEqDiff, reduceCtorEq, ↓reduceIte]
  | ((first | (apply aT_; assumption) | (apply aS_; assumption) | (apply a8_; assumption) | (apply a9_; assumption)); intro hb; try simp only [hb])
  | ((first | (apply aF_; assumption) | (apply aE_; assumption) | (apply aO_; assumption) | (apply aN_; assumption)); intro hb; try simp only [hb])
  | ((first | apply az_ | apply aC_ | apply ak_ | apply an_) <;> intro hb <;> (try simp only [hb]) <;> (first | have hp := aV_ hb | have hp := aW_ hb | have hp := aX_ hb | have hp := aU_ hb | skip)))
def zQ_ : LC :=
 .seq (.ops [.s 2 (.mov (.const (.bool false)))]) (.seq (.ops [.m 3 0, .s 4 (.bin .leq false (.const (.int .u8 48)) (.tmp 3)), .m 5 4, .g 6 5 true (.mov (.tmp 0)), .g 7 5 true (.bin .leq false (.tmp 6) (.const (.int .u8
 57))), .pf 8 5 7, .m 2 8]) .ret)
def xi_ : LF := ⟨1, 9, zQ_, [.tmp 2]⟩
theorem Aj_ : at_ Tryz.prog Tryz.f176 xi_ := ai_
theorem eX_ (b : Int)  (h : List Row) : aa_ Tryz.prog 176 [.val (.int .u8 b)] h (.val (.bool (ge_ b))) := by
 refine aj_ mixed Tryz.func176 Aj_ rfl rfl ?_ h
 simp (disch := omega) only [xi_, zQ_, go_sem, reduceCtorEq, ↓reduceIte]
 repeat' (first
  | exact af_ _ _
  | (refine ae_ ?_; first | rfl | (simp only [ge_, *, Bool.true_and, Bool.false_and, decide_true, decide_false]; done) | (simp [ge_, *]; done))
  | simp (disch := omega) only [go_sem, Nat.reduceEqDiff, reduceCtorEq, ↓reduceIte]
  | ((first | (apply aT_; assumption) | (apply aS_; assumption) | (apply a8_; assumption) | (apply a9_; assumption)); intro hb; try simp only [hb])
  | ((first | (apply aF_; assumption) | (apply aE_; assumption) | (apply aO_; assumption) | (apply aN_; assumption)); intro hb; try simp only [hb])
  | ((first | apply az_ | apply aC_ | apply ak_ | apply an_) <;> intro hb <;> (try simp only [hb]) <;> (first | have hp := aV_ hb | have hp := aW_ hb | have hp := aX_ hb | have hp := aU_ hb | skip)))
theorem eo_ (b : Int)  (h : List Row) : aa_ Tryz.prog 220 [.val (.int .u8 b)] h (.val (.bool (ge_ b))) := by
 refine aj_ mixed Tryz.func220 ug_ rfl rfl ?_ h
 simp (disch := omega) only [s1_, uM_, go_sem, reduceCtorEq, ↓reduceIte]
 repeat' (first
  | exact af_ _ _
  | (refine ae_ ?_; first | rfl | (simp only [ge_, *, Bool.true_and, Bool.false_and, decide_true, decide_false]; done) | (simp [ge_, *]; done))
  | simp (disch := omega) only [go_sem, Nat.reduceEqDiff, reduceCtorEq, ↓reduceIte]
  | ((first | (apply aT_; assumption) | (apply aS_; assumption) | (apply a8_; assumption) | (apply a9_; assumption)); intro hb; try simp only [hb])
  | ((first | (apply aF_; assumption) | (apply aE_; assumption) | (apply aO_; assumption) | (apply aN_; assumption)); intro hb; try simp only [hb])
  | ((first | apply az_ | apply aC_ | apply ak_ | apply an_) <;> intro hb <;> (try simp only [hb]) <;> (first | have hp := aV_ hb | have hp := aW_ hb | have hp := aX_ hb | have hp := aU_ hb | skip)))
def BI_ : LC :=
 .seq (.ops [.s 2 (.mov (.const (.bool false)))]) (.seq (.ops [.m 3 0, .s 4 (.lenStr (.tmp 3)), .bk 5 .geq false 4 1, .m 6 5, .g 7 6 true (.mov (.tmp 0)), .g 8 6 true (.lenStr (.tmp 7)), .g 9 6 true (.bin .leq false (.tmp
 8) (.const (.int .i64 24))), .pf 10 6 9, .m 2 10]) .ret)
def w3_ : LF := ⟨1, 11, BI_, [.tmp 2]⟩
theorem A2_ : at_ Tryz.prog Tryz.f179 w3_ := ai_
theorem fT_ (s : ByteArray)  (h : List Row) : aa_ Tryz.prog 179 [.val (.string s)] h (.val (.bool (bQ_ s))) := by
 refine aj_ mixed Tryz.func179 A2_ rfl rfl ?_ h
 simp (disch := omega) only [w3_, BI_, go_sem, reduceCtorEq, ↓reduceIte]
 repeat' (first
  | exact af_ _ _
  | (refine ae_ ?_; first | rfl | (simp only [bQ_, *, Bool.true_and, Bool.false_and, decide_true, decide_false]; done) | (simp [bQ_, *]; done))
  | simp (disch := omega) only [go_sem, Nat.reduceEqDiff, reduceCtorEq, ↓reduceIte]
  | ((first | (apply aT_; assumption) | (apply aS_; assumption) | (apply a8_; assumption) | (apply a9_; assumption)); intro hb; try simp only [hb])
  | ((first | (apply aF_; assumption) | (apply aE_; assumption) | (apply aO_; assumption) | (apply aN_; assumption)); intro hb; try simp only [hb])
  | ((first | apply az_ | apply aC_ | apply ak_ | apply an_) <;> intro hb <;> (try simp only [hb]) <;> (first | have hp := aV_ hb | have hp := aW_ hb | have hp := aX_ hb | have hp := aU_ hb | skip)))
def Ay_ : LC :=
 .seq (.ops [.s 2 (.mov (.const (.bool false)))]) (.seq (.ops [.m 3 0, .s 4 (.lenStr (.tmp 3)), .bk 5 .geq false 4 1, .m 6 5, .g 7 6 true (.mov (.tmp 0)), .g 8 6 true (.lenStr (.tmp 7)), .g 9 6 true (.bin .leq false (.tmp
 8) (.const (.int .i64 24))), .pf 10 6 9, .m 2 10]) .ret)
def xt_ : LF := ⟨1, 11, Ay_, [.tmp 2]⟩
theorem zf_ : at_ Tryz.prog Tryz.f160 xt_ := ai_
theorem dE_ (s : ByteArray)  (h : List Row) : aa_ Tryz.prog 160 [.val (.string s)] h (.val (.bool (bQ_ s))) := by
 refine aj_ mixed Tryz.func160 zf_ rfl rfl ?_ h
 simp (disch := omega) only [xt_, Ay_, go_sem, reduceCtorEq, ↓reduceIte]
 repeat' (first
  | exact af_ _ _
  | (refine ae_ ?_; first | rfl | (simp only [bQ_, *, Bool.true_and, Bool.false_and, decide_true, decide_false]; done) | (simp [bQ_, *]; done))
  | simp (disch := omega) only [go_sem, Nat.reduceEqDiff, reduceCtorEq, ↓reduceIte]
  | ((first | (apply aT_; assumption) | (apply aS_; assumption) | (apply a8_; assumption) | (apply a9_; assumption)); intro hb; try simp only [hb])
  | ((first | (apply aF_; assumption) | (apply aE_; assumption) | (apply aO_; assumption) | (apply aN_; assumption)); intro hb; try simp only [hb])
  | ((first | apply az_ | apply aC_ | apply ak_ | apply an_) <;> intro hb <;> (try simp only [hb]) <;> (first | have hp := aV_ hb | have hp := aW_ hb | have hp := aX_ hb | have hp := aU_ hb | skip)))
def zq_ : LC :=
 .seq (.ops [.s 2 (.mov (.const (.bool false)))]) (.seq (.ops [.m 3 0, .c1 4 160 3, .m 2 4]) .ret)
def wV_ : LF := ⟨1, 5, zq_, [.tmp 2]⟩
theorem BY_ : at_ Tryz.prog Tryz.f123 wV_ := ai_
theorem dY_ (s : ByteArray)  (h : List Row) : aa_ Tryz.prog 123 [.val (.string s)] h (.val (.bool (bQ_ s))) := by
 refine aj_ mixed Tryz.func123 BY_ rfl rfl ?_ h
 simp (disch := omega) only [wV_, zq_, go_sem, reduceCtorEq, ↓reduceIte]
 repeat' (first
  | exact af_ _ _
  | (refine ae_ ?_; first | rfl | (simp only [bQ_, *, Bool.and_true, Bool.true_and, Bool.and_false, Bool.false_and, Bool.or_true, Bool.true_or, Bool.or_false, Bool.false_or, Bool.not_true, Bool.not_false, decide_true, decide_false, Bool.and_self, Bool.or_self]; done) | (simp [bQ_, *]; done))
  | simp (disch := omega) only [go_sem, ↓reduceIte]
  | (refine aa_.call (dE_ _ _) ?_)
  | (refine aa_.q (dE_ _ _) ?_)
  | ((first | (apply aF_; assumption) | (apply aE_; assumption) | (apply aO_; assumption) | (apply aN_; assumption)); intro hb; try simp only [hb])
  | ((first | apply ak_ | apply an_) <;> intro hb <;> (try simp only [hb]) <;> (first | have hp := aV_ hb | have hp := aW_ hb | have hp := aX_ hb | have hp := aU_ hb | skip)))
def CC_ : LC :=
 .seq (.ops [.ki 4 0]) (.seq (.seq (.ops [.m 6 0, .ll 7 6, .ki 8 0]) (.block 0 (.loop (.seq (.ops [.bb 9 .lss false 8 7]) (.seq (.cond (.tmp 9) .skip (.exit 0)) (.seq (.block 1 (.seq (.ops [.m 10 8, .m 5 10]) (.seq (.ops
 [.m 11 1, .m 12 0, .m 13 5, .ia 14 1 12 13, .ln 15 14, .s 16 (.callv (.tmp 11) [.tmp 15])]) (.cond (.tmp 16) (.seq (.ops [.m 17 5, .m 4 17]) .ret) .skip)))) (.ops [.bk 18 .add false 8 1, .m 8 18]))))))) (.seq (.ops [.s 4
 (.mov (.const (.int .i64 (-1))))]) .ret))
def xn_ : LF := ⟨2, 19, CC_, [.tmp 4]⟩
theorem BG_ : at_ Tryz.prog Tryz.f209 xn_ := ai_
theorem hs_ (xs : List ByteArray) (p : ByteArray → Bool) (g : Nat) (hx : xs.length ≤ 1048576) (hc : cq_ Tryz.prog g = true) (hp : ∀ x ∈ xs, ∀ h, aa_ Tryz.prog g [.val (.string x)] h (.val (.bool (p x)))) (h : List Row) :
 aa_ Tryz.prog 209 [.list 0 1 (xs.map am_), .fn g [] []] h (.val (.int .i64 (b0_ p xs 0))) := by
 refine aj_ mixed Tryz.func209 BG_ rfl rfl ?_ h
 simp (disch := omega) only [xn_, CC_, go_sem, reduceCtorEq, Int.reduceNeg, ↓reduceIte]
 refine aL_ (fun n t h => ∃ k : Nat, t 0 = .list 0 1 (xs.map am_) ∧ t 1 = .fn g [] [] ∧ t 6 = .list 0 1 (xs.map am_) ∧ t 7 = .val (.int .i64 xs.length) ∧ t 8 = .val (.int .i64 k) ∧ n = xs.length - k ∧ k ≤ xs.length ∧ (b0_ p xs 0 = b0_ p (xs.drop k) k)) (xs.length) ?_ ?_
 ·exact ⟨0, rfl, rfl, rfl, rfl, rfl, rfl, Nat.zero_le _, rfl⟩
 ·rintro J hJ n t h ⟨k, t0, t1, t6, t7, k8, rfl, hk, hS⟩
  by_cases hlt : k < xs.length
  ·skip
   rw [gj_ p xs k hlt] at hS
   simp (disch := omega) only [t0, t1, t7, k8, hlt, hc, am_, go_sem, Nat.reduceEqDiff, reduceCtorEq, Int.reduceNeg, ↓reduceIte]
   repeat' (first
    | exact af_ _ _
    | exact ⟨xs.length - (k + 1), by omega, hJ _ _ _ ⟨k + 1, by simp [upd, t0], by simp [upd, t1], by simp [upd, t6], by simp [upd, t7], by simp [upd], rfl, by omega, by rw [hS]; simp [*]⟩⟩
    | (refine aG_ ?_; rw [hS]; simp [*]; done)
    | (refine aG_ ?_; rw [hS, ea_ _ _ _ (by omega)])
    | simp (disch := omega) only [k8, go_sem, Nat.reduceEqDiff, Int.reduceNeg, ↓reduceIte]
    | (refine aa_.call (hp xs[k] (getElem_mem hlt) _) ?_)
    | (refine aa_.q (hp xs[k] (getElem_mem hlt) _) ?_)
    | ((first | (apply aF_; assumption) | (apply aE_; assumption) | (apply aO_; assumption) | (apply aN_; assumption)); intro hb; try simp only [hb])
    | ((first | apply ak_ | apply an_) <;> intro hb <;> (try simp only [hb]) <;> (first | have hp := aV_ hb | have hp := aW_ hb | have hp := aX_ hb | have hp := aU_ hb | skip)))
  ·skip
   simp (disch := omega) only [t7, k8, hlt, go_sem, Int.reduceNeg, ↓reduceIte]
   repeat' (first
    | exact af_ _ _
    | (refine aG_ ?_; rw [hS]; simp [*]; done)
    | (refine aG_ ?_; rw [hS, ea_ _ _ _ (by omega)])
    | simp (disch := omega) only [t0, t1, t6, t7, k8, go_sem, Nat.reduceEqDiff, Nat.reduceAdd, Nat.reduceLeDiff, reduceCtorEq, Int.reduceLT, Int.reduceLE, Int.reduceNeg, Int.reduceSub, Int.reduceAdd, Int.reduceToNat, ↓reduceIte]
    | (refine aa_.call (hp xs[k] (getElem_mem hlt) _) ?_)
    | (refine aa_.q (hp xs[k] (getElem_mem hlt) _) ?_)
    | ((first | (apply aF_; assumption) | (apply aE_; assumption) | (apply aO_; assumption) | (apply aN_; assumption)); intro hb; try simp only [hb])
    | ((first | apply ak_ | apply an_) <;> intro hb <;> (try simp only [hb]) <;> (first | have hp := aV_ hb | have hp := aW_ hb | have hp := aX_ hb | have hp := aU_ hb | skip)))
def Cx_ : LC :=
 .seq (.ops [.s 4 (.mov (.const (.bool false)))]) (.seq (.ops [.m 5 0, .m 6 1, .c2 7 209 5 6, .bk 8 .geq false 7 0, .m 4 8]) .ret)
def wO_ : LF := ⟨2, 9, Cx_, [.tmp 4]⟩
theorem ze_ : at_ Tryz.prog Tryz.f181 wO_ := ai_
theorem cu_ (xs : List ByteArray) (p : ByteArray → Bool) (g : Nat) (hx : xs.length ≤ 1048576) (hc : cq_ Tryz.prog g = true) (hp : ∀ x ∈ xs, ∀ h, aa_ Tryz.prog g [.val (.string x)] h (.val (.bool (p x)))) (h : List Row) :
 aa_ Tryz.prog 181 [.list 0 1 (xs.map am_), .fn g [] []] h (.val (.bool (xs.any p))) := by
 refine aj_ mixed Tryz.func181 ze_ rfl rfl ?_ h
 simp (disch := omega) only [wO_, Cx_, go_sem, Nat.reduceEqDiff, reduceCtorEq, ↓reduceIte]
 refine aa_.call (hs_ xs p g hx hc hp _) ?_
 simp (disch := omega) only [go_sem, ↓reduceIte]
 exact ae_ (iT_ p xs)
def bg_ (xs : List ByteArray) : Bool := decide ((xs.length : Int) ≤ 4) && xs.all bQ_
def Du_ : LC :=
 .seq (.ops [.s 2 (.mov (.const (.bool false)))]) (.seq (.ops [.m 3 0, .c1 4 179 3, .nt 5 4, .m 2 5]) .ret)
def xr_ : LF := ⟨1, 6, Du_, [.tmp 2]⟩
theorem BO_ : at_ Tryz.prog Tryz.f182 xr_ := ai_
theorem hv_ (s : ByteArray)  (h : List Row) : aa_ Tryz.prog 182 [.val (.string s)] h (.val (.bool (!bQ_ s))) := by
 refine aj_ mixed Tryz.func182 BO_ rfl rfl ?_ h
 simp (disch := omega) only [xr_, Du_, go_sem, reduceCtorEq, ↓reduceIte]
 repeat' (first
  | exact af_ _ _
  | simp (disch := omega) only [go_sem, ↓reduceIte]
  | (refine aa_.call (fT_ _ _) ?_)
  | (refine aa_.q (fT_ _ _) ?_)
  | ((first | (apply aF_; assumption) | (apply aE_; assumption) | (apply aO_; assumption) | (apply aN_; assumption)); intro hb; try simp only [hb])
  | ((first | apply ak_ | apply an_) <;> intro hb <;> (try simp only [hb]) <;> (first | have hp := aV_ hb | have hp := aW_ hb | have hp := aX_ hb | have hp := aU_ hb | skip)))
theorem nx_ {α : Type} (p : α → Bool) (xs : List α) : (!xs.any fun x => !p x) = xs.all p := by
 induction xs with
 | nil => rfl
 | cons x xs ih => simp only [any_cons, all_cons, Bool.not_or, Bool.not_not, ih]
def Db_ : LC :=
 .seq (.ops [.s 2 (.mov (.const (.bool false)))]) (.seq (.ops [.m 3 0, .ll 4 3, .bk 5 .leq false 4 4, .m 6 5, .g 7 6 true (.mov (.tmp 0)), .g 8 6 true (.call 181 [.tmp 7, .func 182]), .g 9 6 true (.un .not (.tmp 8)), .pf
 10 6 9, .m 2 10]) .ret)
def xY_ : LF := ⟨1, 11, Db_, [.tmp 2]⟩
theorem DA_ : at_ Tryz.prog Tryz.f143 xY_ := ai_
theorem cc_ (xs : List ByteArray) (hx : xs.length ≤ 1048576) (h : List Row) : aa_ Tryz.prog 143 [.list 0 1 (xs.map am_)] h (.val (.bool (bg_ xs))) := by
 refine aj_ mixed Tryz.func143 DA_ rfl rfl ?_ h
 simp (disch := omega) only [xY_, Db_, go_sem, reduceCtorEq, ↓reduceIte]
 repeat' (first
  | exact af_ _ _
  | (refine ae_ ?_; simp only [nx_, bg_, *, Bool.true_and, Bool.false_and, decide_true, decide_false]; done)
  | (refine ae_ ?_; first | rfl | (simp only [bg_, *, Bool.and_true, Bool.true_and, Bool.and_false, Bool.false_and, Bool.or_true, Bool.true_or, Bool.or_false, Bool.false_or, Bool.not_true, Bool.not_false, decide_true, decide_false, Bool.and_self, Bool.or_self]; done) | (simp [bg_, *]; done))
  | simp (disch := omega) only [go_sem, Nat.reduceEqDiff, reduceCtorEq, ↓reduceIte]
  | (refine aa_.call (cu_ _ (fun s => !bQ_ s) 182 hx (by kernel_rfl) (fun x _ h => hv_ x h) _) ?_)
  | (refine aa_.q (cu_ _ (fun s => !bQ_ s) 182 hx (by kernel_rfl) (fun x _ h => hv_ x h) _) ?_)
  | ((first | (apply aT_; assumption) | (apply aS_; assumption) | (apply a8_; assumption) | (apply a9_; assumption)); intro hb; try simp only [hb])
  | ((first | (apply aF_; assumption) | (apply aE_; assumption) | (apply aO_; assumption) | (apply aN_; assumption)); intro hb; try simp only [hb])
  | ((first | apply az_ | apply aC_ | apply ak_ | apply an_) <;> intro hb <;> (try simp only [hb]) <;> (first | have hp := aV_ hb | have hp := aW_ hb | have hp := aX_ hb | have hp := aU_ hb | skip)))
def vo_ : LC :=
 .seq (.ops [.s 2 (.mov (.const (.bool false)))]) (.seq (.seq (.ops [.m 4 0, .ll 5 4, .bk 6 .gtr false 5 4]) (.cond (.tmp 6) (.seq (.ops [.s 2 (.mov (.const (.bool false)))]) .ret) .skip)) (.seq (.seq (.ops [.ki 3 0])
 (.block 0 (.loop (.seq (.seq (.ops [.m 7 3, .m 8 0, .ll 9 8, .bb 10 .lss false 7 9]) (.cond (.tmp 10) .skip (.exit 0))) (.seq (.block 1 (.seq (.ops [.m 13 0, .m 14 3, .ia 15 1 13 14, .ln 16 15, .c1 17 160 16, .nt 18 17])
 (.cond (.tmp 18) (.seq (.ops [.s 2 (.mov (.const (.bool false)))]) .ret) .skip))) (.ops [.m 11 3, .bk 12 .add false 11 1, .m 3 12])))))) (.seq (.ops [.s 2 (.mov (.const (.bool true)))]) .ret)))
def sh_ : LF := ⟨1, 19, vo_, [.tmp 2]⟩
theorem AP_ : at_ Tryz.prog Tryz.f162 sh_ := ai_
theorem d7_ (xs : List ByteArray) (hx : xs.length ≤ 1048576) (h : List Row) : aa_ Tryz.prog 162 [.list 0 1 (xs.map am_)] h (.val (.bool (bg_ xs))) := by
 refine aj_ mixed Tryz.func162 AP_ rfl rfl ?_ h
 by_cases h4 : (xs.length : Int) ≤ 4
 ·have h4' : ((4 : Int) < xs.length) = False := by simp; omega
  have hS0 : bg_ xs = xs.all bQ_ := by simp [bg_, h4]
  simp (disch := omega) only [sh_, vo_, h4', go_sem, reduceCtorEq, ↓reduceIte]
  refine aL_ (fun n t h => ∃ k : Nat, t 0 = .list 0 1 (xs.map am_) ∧ t 3 = .val (.int .i64 k) ∧ n = xs.length - k ∧ k ≤ xs.length ∧ (xs.all bQ_ = (xs.drop k).all bQ_)) (xs.length) ?_ ?_
  ·exact ⟨0, rfl, rfl, rfl, Nat.zero_le _, rfl⟩
  ·rintro J hJ n t h ⟨k, t0, k3, rfl, hk, hS⟩
   by_cases hlt : k < xs.length
   ·skip
    rw [l6_ bQ_ xs k hlt] at hS
    simp (disch := omega) only [t0, k3, hlt, am_, go_sem, Nat.reduceEqDiff, reduceCtorEq, ↓reduceIte]
    repeat' (first
     | exact af_ _ _
     | exact ⟨xs.length - (k + 1), by omega, hJ _ _ _ ⟨k + 1, by simp [upd, t0], by simp [upd], rfl, by omega, by rw [hS]; first | (simp only [*, Bool.true_and]; done) | simp [*]⟩⟩
     | (refine ae_ ?_; rw [hS0, hS]; first | (simp only [*, Bool.false_and]; done) | (simp [*]; done))
     | (refine ae_ ?_; rw [hS0, hS, hO_ _ _ _ (by omega)])
     | simp (disch := omega) only [k3, go_sem, Nat.reduceEqDiff, ↓reduceIte]
     | (refine aa_.call (dE_ _ _) ?_)
     | (refine aa_.q (dE_ _ _) ?_)
     | ((first | (apply aF_; assumption) | (apply aE_; assumption) | (apply aO_; assumption) | (apply aN_; assumption)); intro hb; try simp only [hb])
     | ((first | apply ak_ | apply an_) <;> intro hb <;> (try simp only [hb]) <;> (first | have hp := aV_ hb | have hp := aW_ hb | have hp := aX_ hb | have hp := aU_ hb | skip)))
   ·skip
    simp (disch := omega) only [t0, k3, hlt, go_sem, Nat.reduceEqDiff, reduceCtorEq, ↓reduceIte]
    repeat' (first
     | exact af_ _ _
     | (refine ae_ ?_; rw [hS0, hS]; first | (simp only [*, Bool.and_true, Bool.true_and, Bool.and_false, Bool.false_and, Bool.or_true, Bool.true_or, Bool.or_false, Bool.false_or, Bool.not_true, Bool.not_false, decide_true, decide_false, Bool.and_self, Bool.or_self]; done) | (simp [*]; done))
     | (refine ae_ ?_; rw [hS0, hS, hO_ _ _ _ (by omega)])
     | simp (disch := omega) only [t0, k3, go_sem, Nat.reduceEqDiff, Nat.reduceAdd, Nat.reduceLeDiff, reduceCtorEq, Int.reduceLT, Int.reduceLE, Int.reduceNeg, Int.reduceSub, Int.reduceAdd, Int.reduceToNat, ↓reduceIte]
     | (refine aa_.call (dE_ _ _) ?_)
     | (refine aa_.q (dE_ _ _) ?_)
     | ((first | (apply aF_; assumption) | (apply aE_; assumption) | (apply aO_; assumption) | (apply aN_; assumption)); intro hb; try simp only [hb])
     | ((first | apply ak_ | apply an_) <;> intro hb <;> (try simp only [hb]) <;> (first | have hp := aV_ hb | have hp := aW_ hb | have hp := aX_ hb | have hp := aU_ hb | skip)))
 ·have h4' : ((4 : Int) < xs.length) = True := by simp; omega
  simp (disch := omega) only [sh_, vo_, h4', go_sem, reduceCtorEq, ↓reduceIte]
  exact ae_ (by simp [bg_, h4])
def Ca_ : LC :=
 .seq (.ops [.s 2 (.mov (.const (.bool false)))]) (.seq (.ops [.m 3 0, .c1 4 162 3, .m 2 4]) .ret)
def xM_ : LF := ⟨1, 5, Ca_, [.tmp 2]⟩
theorem Aa_ : at_ Tryz.prog Tryz.f125 xM_ := ai_
theorem bP_ (xs : List ByteArray) (hx : xs.length ≤ 1048576) (h : List Row) : aa_ Tryz.prog 125 [.list 0 1 (xs.map am_)] h (.val (.bool (bg_ xs))) := by
 refine aj_ mixed Tryz.func125 Aa_ rfl rfl ?_ h
 simp (disch := omega) only [xM_, Ca_, go_sem, reduceCtorEq, ↓reduceIte]
 repeat' (first
  | exact af_ _ _
  | simp (disch := omega) only [go_sem, ↓reduceIte]
  | (refine aa_.call (d7_ _ hx _) ?_)
  | (refine aa_.q (d7_ _ hx _) ?_)
  | ((first | (apply aF_; assumption) | (apply aE_; assumption) | (apply aO_; assumption) | (apply aN_; assumption)); intro hb; try simp only [hb])
  | ((first | apply ak_ | apply an_) <;> intro hb <;> (try simp only [hb]) <;> (first | have hp := aV_ hb | have hp := aW_ hb | have hp := aX_ hb | have hp := aU_ hb | skip)))
def dO_ : List Int → Nat → Bool
 | [], _ => true
 | b :: bs, k => (ej_ b || (decide (k = 0) && decide (b = 37)) || (!decide (k = 0) && ge_ b)) && dO_ bs (k + 1)
def bV_ (s : ByteArray) : Bool := decide (1 ≤ (s.size : Int)) && decide ((s.size : Int) ≤ 8) && dO_ (ee_ s) 0
theorem fS_ (bs : List Int) (k : Nat) (h : k < bs.length) : dO_ (bs.drop k) k = ((ej_ bs[k] || (decide (k = 0) && decide (bs[k] = 37)) || (!decide (k = 0) && ge_ bs[k])) && dO_ (bs.drop (k + 1)) (k + 1)) := by
 rw [drop_eq_getElem_cons h]; rfl
theorem gs_ (bs : List Int) (k : Nat) (h : bs.length ≤ k) : dO_ (bs.drop k) k = true := by
 rw [drop_eq_nil_of_le h]; rfl
def Bj_ : LC :=
 .seq (.ops [.s 2 (.mov (.const (.bool false)))]) (.seq (.seq (.ops [.ki 3 0]) (.block 0 (.loop (.seq (.seq (.ops [.m 5 3, .m 6 0, .s 7 (.lenStr (.tmp 6)), .bb 8 .lss false 5 7]) (.cond (.tmp 8) .skip (.exit 0))) (.seq
 (.block 1 (.seq (.ops [.m 11 0, .m 12 3, .s 13 (.indexStr (.tmp 11) (.tmp 12)), .c1 14 175 13, .m 15 14, .g 16 15 false (.mov (.tmp 3)), .g 17 15 false (.bin .eql false (.tmp 16) (.const (.int .i64 0))), .g 18 15 false
 (.mov (.tmp 17)), .g 19 18 true (.mov (.tmp 0)), .g 20 18 true (.mov (.tmp 3)), .g 21 18 true (.indexStr (.tmp 19) (.tmp 20)), .g 22 18 true (.bin .eql false (.tmp 21) (.const (.int .u8 37))), .g 23 15 false (.pick (.tmp
 18) (.tmp 22) (.const (.bool false))), .pt 24 15 23, .m 4 24]) (.seq (.ops [.m 25 4, .nt 26 25, .m 27 26, .g 28 27 true (.mov (.tmp 3)), .g 29 27 true (.bin .eql false (.tmp 28) (.const (.int .i64 0))), .g 30 27 true
 (.mov (.tmp 29)), .g 31 30 false (.mov (.tmp 0)), .g 32 30 false (.mov (.tmp 3)), .g 33 30 false (.indexStr (.tmp 31) (.tmp 32)), .g 34 30 false (.call 176 [.tmp 33]), .g 35 30 false (.un .not (.tmp 34)), .g 36 27 true
 (.pick (.tmp 30) (.const (.bool true)) (.tmp 35)), .pf 37 27 36]) (.cond (.tmp 37) (.seq (.ops [.s 2 (.mov (.const (.bool false)))]) .ret) .skip)))) (.ops [.m 9 3, .bk 10 .add false 9 1, .m 3 10])))))) (.seq (.ops [.m 38
 0, .s 39 (.lenStr (.tmp 38)), .bk 40 .geq false 39 1, .m 41 40, .g 42 41 true (.mov (.tmp 0)), .g 43 41 true (.lenStr (.tmp 42)), .g 44 41 true (.bin .leq false (.tmp 43) (.const (.int .i64 8))), .pf 45 41 44, .m 2 45])
 .ret))
def wT_ : LF := ⟨1, 46, Bj_, [.tmp 2]⟩
theorem CX_ : at_ Tryz.prog Tryz.f140 wT_ := ai_
theorem dF_ (s : ByteArray) (hs : s.size ≤ 1048576) (h : List Row) : aa_ Tryz.prog 140 [.val (.string s)] h (.val (.bool (bV_ s))) := by
 refine aj_ mixed Tryz.func140 CX_ rfl rfl ?_ h
 have hl := df_ s
 simp (disch := omega) only [wT_, Bj_, go_sem]
 refine aL_ (fun n t h => ∃ k : Nat, t 0 = .val (.string s) ∧ t 3 = .val (.int .i64 k) ∧ n = s.size - k ∧ k ≤ s.size ∧ (dO_ (ee_ s) 0 = dO_ ((ee_ s).drop k) k)) (s.size) ?_ ?_
 ·exact ⟨0, rfl, rfl, rfl, Nat.zero_le _, rfl⟩
 ·rintro J hJ n t h ⟨k, t0, k3, rfl, hk, hS⟩
  by_cases hlt : k < s.size
  ·skip
   rw [fS_ (ee_ s) k (by omega)] at hS
   simp (disch := omega) only [t0, k3, hlt, go_sem, Nat.reduceEqDiff, reduceCtorEq, ↓reduceIte]
   repeat' (first
    | exact af_ _ _
    | exact ⟨s.size - (k + 1), by omega, hJ _ _ _ ⟨k + 1, by simp [upd, t0], by simp [upd], rfl, by omega, by rw [hS]; first | (simp only [*, Bool.true_and, Bool.false_and, Bool.or_true, Bool.true_or, Bool.or_false, Bool.not_true, Bool.not_false, Bool.and_self, Bool.or_self]; done) | simp [*]⟩⟩
    | (refine ae_ ?_; simp only [bV_]; rw [hS]; first | (simp only [*, Bool.and_false, Bool.false_and, Bool.not_true, Bool.not_false, Bool.or_self]; done) | (simp [*]; done))
    | (refine ae_ ?_; rw [gs_ _ _ (by omega)] at hS; simp only [bV_]; rw [hS]; first | (simp only [*, Bool.and_true, Bool.true_and, Bool.and_false, Bool.false_and, Bool.or_true, Bool.true_or, Bool.or_false, Bool.false_or, Bool.not_true, Bool.not_false, decide_true, decide_false, Bool.and_self, Bool.or_self]; done) | (simp [*]; done))
    | simp (disch := omega) only [t0, k3, go_sem, Nat.reduceEqDiff, reduceCtorEq, ↓reduceIte]
    | (refine aa_.call (eK_ _ _) ?_)
    | (refine aa_.q (eK_ _ _) ?_)
    | (refine aa_.call (eX_ _ _) ?_)
    | (refine aa_.q (eX_ _ _) ?_)
    | ((first | (apply aT_; assumption) | (apply aS_; assumption) | (apply a8_; assumption) | (apply a9_; assumption)); intro hb; try simp only [hb])
    | ((first | (apply aF_; assumption) | (apply aE_; assumption) | (apply aO_; assumption) | (apply aN_; assumption)); intro hb; try simp only [hb])
    | ((first | apply az_ | apply aC_ | apply ak_ | apply an_) <;> intro hb <;> (try simp only [hb]) <;> (first | have hp := aV_ hb | have hp := aW_ hb | have hp := aX_ hb | have hp := aU_ hb | skip)))
  ·skip
   simp (disch := omega) only [t0, k3, hlt, go_sem, Nat.reduceEqDiff, reduceCtorEq, ↓reduceIte]
   repeat' (first
    | exact af_ _ _
    | (refine ae_ ?_; simp only [bV_]; rw [hS]; first | (simp only [*, Bool.true_and, Bool.false_and, decide_true, decide_false]; done) | (simp [*]; done))
    | (refine ae_ ?_; rw [gs_ _ _ (by omega)] at hS; simp only [bV_]; rw [hS]; first | (simp only [*, Bool.and_true, Bool.true_and, decide_true]; done) | (simp [*]; done))
    | simp (disch := omega) only [t0, go_sem, Nat.reduceEqDiff, reduceCtorEq, ↓reduceIte]
    | (refine aa_.call (eK_ _ _) ?_)
    | (refine aa_.q (eK_ _ _) ?_)
    | (refine aa_.call (eX_ _ _) ?_)
    | (refine aa_.q (eX_ _ _) ?_)
    | ((first | (apply aT_; assumption) | (apply aS_; assumption) | (apply a8_; assumption) | (apply a9_; assumption)); intro hb; try simp only [hb])
    | ((first | (apply aF_; assumption) | (apply aE_; assumption) | (apply aO_; assumption) | (apply aN_; assumption)); intro hb; try simp only [hb])
    | ((first | apply az_ | apply aC_ | apply ak_ | apply an_) <;> intro hb <;> (try simp only [hb]) <;> (first | have hp := aV_ hb | have hp := aW_ hb | have hp := aX_ hb | have hp := aU_ hb | skip)))
theorem r9_ {s : ByteArray} (h3 : 0 < s.size) (h4 : ej_ ((ee_ s)[0]'(by rw [df_]; exact h3)) = false) (h5 : decide (((ee_ s)[0]'(by rw [df_]; exact h3)) = 37) = false) : bV_ s = false := by
 have h6 := fS_ (ee_ s) 0 (by rw [df_]; exact h3)
 rw [drop_zero] at h6
 simp only [bV_, h6, h4, h5]; simp
theorem pQ_ {s : ByteArray} (h1 : decide ((s.size : Int) < 1) = false) (h2 : decide (8 < (s.size : Int)) = false) (h3 : 0 < s.size) (h4 : ej_ ((ee_ s)[0]'(by rw [df_]; exact h3)) = true ∨ ((ee_ s)[0]'(by rw [df_]; exact h3)) = 37) : bV_ s = dO_ ((ee_ s).drop 1) 1 := by
 have h5 := fS_ (ee_ s) 0 (by rw [df_]; exact h3)
 rw [drop_zero] at h5
 have h6 := of_decide_eq_false h1
 have h7 := of_decide_eq_false h2
 have e1 : decide (1 ≤ (s.size : Int)) = true := by simp; omega
 have e2 : decide ((s.size : Int) ≤ 8) = true := by simp; omega
 simp only [bV_, e1, e2, h5, Bool.true_and]
 rcases h4 with h4 | h4 <;> simp [h4]
def sN_ : LC :=
 .seq (.ops [.s 2 (.mov (.const (.bool false)))]) (.seq (.seq (.ops [.m 4 0, .s 5 (.lenStr (.tmp 4)), .bk 6 .lss false 5 1, .m 7 6, .g 8 7 false (.mov (.tmp 0)), .g 9 7 false (.lenStr (.tmp 8)), .g 10 7 false (.bin .gtr
 false (.tmp 9) (.const (.int .i64 8))), .pt 11 7 10, .m 12 11, .g 13 12 false (.mov (.tmp 0)), .g 14 12 false (.indexStr (.tmp 13) (.const (.int .i64 0))), .g 15 12 false (.call 219 [.tmp 14]), .g 16 12 false (.un .not
 (.tmp 15)), .g 17 12 false (.mov (.tmp 16)), .g 18 17 true (.mov (.tmp 0)), .g 19 17 true (.indexStr (.tmp 18) (.const (.int .i64 0))), .g 20 17 true (.bin .neq false (.tmp 19) (.const (.int .u8 37))), .g 21 12 false
 (.pick (.tmp 17) (.tmp 20) (.const (.bool false))), .pt 22 12 21]) (.cond (.tmp 22) (.seq (.ops [.s 2 (.mov (.const (.bool false)))]) .ret) .skip)) (.seq (.seq (.ops [.ki 3 1]) (.block 0 (.loop (.seq (.seq (.ops [.m 23
 3, .m 24 0, .s 25 (.lenStr (.tmp 24)), .bb 26 .lss false 23 25]) (.cond (.tmp 26) .skip (.exit 0))) (.seq (.block 1 (.seq (.ops [.m 29 0, .m 30 3, .s 31 (.indexStr (.tmp 29) (.tmp 30)), .c1 32 219 31, .nt 33 32, .m 34
 33, .g 35 34 true (.mov (.tmp 0)), .g 36 34 true (.mov (.tmp 3)), .g 37 34 true (.indexStr (.tmp 35) (.tmp 36)), .g 38 34 true (.call 220 [.tmp 37]), .g 39 34 true (.un .not (.tmp 38)), .pf 40 34 39]) (.cond (.tmp 40)
 (.seq (.ops [.s 2 (.mov (.const (.bool false)))]) .ret) .skip))) (.ops [.m 27 3, .bk 28 .add false 27 1, .m 3 28])))))) (.seq (.ops [.s 2 (.mov (.const (.bool true)))]) .ret)))
def oZ_ : LF := ⟨1, 41, sN_, [.tmp 2]⟩
theorem Cl_ : at_ Tryz.prog Tryz.f193 oZ_ := ai_
theorem iy_ (s : ByteArray) (hs : s.size ≤ 1048576) (h : List Row) : aa_ Tryz.prog 193 [.val (.string s)] h (.val (.bool (bV_ s))) := by
 refine aj_ mixed Tryz.func193 Cl_ rfl rfl ?_ h
 have hl := df_ s
 by_cases h0 : (s.size : Int) < 1
 ·simp (disch := omega) only [oZ_, sN_, h0, go_sem, Nat.reduceEqDiff, reduceCtorEq, ↓reduceIte]
  have h9 : ¬ (1 ≤ (s.size : Int)) := by omega
  exact ae_ (by simp [bV_, h9])
 by_cases h8 : 8 < (s.size : Int)
 ·simp (disch := omega) only [oZ_, sN_, h0, h8, go_sem, Nat.reduceEqDiff, reduceCtorEq, ↓reduceIte]
  have h9 : ¬ ((s.size : Int) ≤ 8) := by omega
  exact ae_ (by simp [bV_, h9])
 have hpos : 0 < s.size := by omega
 have hle : (ee_ s)[0]? = some ((ee_ s)[0]'(by omega)) := getElem?_eq_getElem (by omega)
 simp (disch := omega) only [oZ_, sN_, h0, h8, go_sem, Nat.reduceEqDiff, reduceCtorEq, Int.reduceLE, ↓reduceIte]
 repeat' (first
  | exact af_ _ _
  | (refine ae_ ?_; apply Eq.symm; apply r9_ hpos <;> assumption)
  | (
   have hS0 : bV_ s = dO_ ((ee_ s).drop 1) 1 := pQ_ (by simp; omega) (by simp; omega) hpos (by simp_all)
   refine aL_ (fun n t h => ∃ k : Nat, t 0 = .val (.string s) ∧ t 3 = .val (.int .i64 k) ∧ n = s.size - k ∧ k ≤ s.size ∧ (dO_ ((ee_ s).drop 1) 1 = dO_ ((ee_ s).drop k) k ∧ 1 ≤ k)) (s.size - 1) ?_ ?_
   ·exact ⟨1, rfl, rfl, rfl, by omega, ⟨rfl, Nat.le_refl _⟩⟩
   ·rintro J hJ n t h ⟨k, t0, k3, rfl, hk, hS⟩
    by_cases hlt : k < s.size
    ·skip
     obtain ⟨hS, hk1⟩ := hS
     rw [fS_ (ee_ s) k (by omega)] at hS
     have hk0 : decide (k = 0) = false := by simp; omega
     simp only [hk0, Bool.false_and, Bool.or_false, Bool.not_false, Bool.true_and] at hS
     simp (disch := omega) only [t0, k3, hlt, go_sem, Nat.reduceEqDiff, reduceCtorEq, ↓reduceIte]
     repeat' (first
      | exact af_ _ _
      | exact ⟨s.size - (k + 1), by omega, hJ _ _ _ ⟨k + 1, by simp [upd, t0], by simp [upd], rfl, by omega, by refine ⟨?_, by omega⟩; rw [hS]; first | (simp only [*, Bool.true_and, Bool.or_true, Bool.true_or]; done) | simp [*]⟩⟩
      | (refine ae_ ?_; rw [hS0, hS]; first | (simp only [*, Bool.false_and, Bool.or_self]; done) | (simp [*]; done))
      | (refine ae_ ?_; rw [hS0, hS.1, gs_ _ _ (by omega)])
      | simp (disch := omega) only [t0, k3, go_sem, Nat.reduceEqDiff, reduceCtorEq, ↓reduceIte]
      | (refine aa_.call (c0_ _ _) ?_)
      | (refine aa_.q (c0_ _ _) ?_)
      | (refine aa_.call (eo_ _ _) ?_)
      | (refine aa_.q (eo_ _ _) ?_)
      | ((first | (apply aT_; assumption) | (apply aS_; assumption) | (apply a8_; assumption) | (apply a9_; assumption)); intro hb; try simp only [hb])
      | ((first | (apply aF_; assumption) | (apply aE_; assumption) | (apply aO_; assumption) | (apply aN_; assumption)); intro hb; try simp only [hb])
      | ((first | apply az_ | apply aC_ | apply ak_ | apply an_) <;> intro hb <;> (try simp only [hb]) <;> (first | have hp := aV_ hb | have hp := aW_ hb | have hp := aX_ hb | have hp := aU_ hb | skip)))
    ·skip
     simp (disch := omega) only [t0, k3, hlt, go_sem, Nat.reduceEqDiff, reduceCtorEq, ↓reduceIte]
     repeat' (first
      | exact af_ _ _
      | (refine ae_ ?_; rw [hS0, hS]; first | (simp only [*, Bool.and_true, Bool.true_and, Bool.and_false, Bool.false_and, Bool.or_true, Bool.true_or, Bool.or_false, Bool.false_or, Bool.not_true, Bool.not_false, decide_true, decide_false, Bool.and_self, Bool.or_self]; done) | (simp [*]; done))
      | (refine ae_ ?_; rw [hS0, hS.1, gs_ _ _ (by omega)])
      | simp (disch := omega) only [t0, k3, go_sem, Nat.reduceEqDiff, Nat.reduceAdd, Nat.reduceLeDiff, reduceCtorEq, Int.reduceLT, Int.reduceLE, Int.reduceNeg, Int.reduceSub, Int.reduceAdd, Int.reduceToNat, ↓reduceIte]
      | (refine aa_.call (c0_ _ _) ?_)
      | (refine aa_.q (c0_ _ _) ?_)
      | (refine aa_.call (eo_ _ _) ?_)
      | (refine aa_.q (eo_ _ _) ?_)
      | ((first | (apply aT_; assumption) | (apply aS_; assumption) | (apply a8_; assumption) | (apply a9_; assumption)); intro hb; try simp only [hb])
      | ((first | (apply aF_; assumption) | (apply aE_; assumption) | (apply aO_; assumption) | (apply aN_; assumption)); intro hb; try simp only [hb])
      | ((first | apply az_ | apply aC_ | apply ak_ | apply an_) <;> intro hb <;> (try simp only [hb]) <;> (first | have hp := aV_ hb | have hp := aW_ hb | have hp := aX_ hb | have hp := aU_ hb | skip))))
  | simp (disch := omega) only [go_sem, Nat.reduceEqDiff, reduceCtorEq, Int.reduceLE, ↓reduceIte]
  | (refine aa_.call (c0_ _ _) ?_)
  | (refine aa_.q (c0_ _ _) ?_)
  | ((first | (apply aT_; assumption) | (apply aS_; assumption) | (apply a8_; assumption) | (apply a9_; assumption)); intro hb; try simp only [hb])
  | ((first | (apply aF_; assumption) | (apply aE_; assumption) | (apply aO_; assumption) | (apply aN_; assumption)); intro hb; try simp only [hb])
  | ((first | apply az_ | apply aC_ | apply ak_ | apply an_) <;> intro hb <;> (try simp only [hb]) <;> (first | have hp := aV_ hb | have hp := aW_ hb | have hp := aX_ hb | have hp := aU_ hb | skip)))
theorem fb_ {α β : Type} (f : α → β) (xs : List α) (n : Nat) : List.take n (List.map f xs) = List.map f (List.take n xs) := map_take.symm
theorem mg_ (a b : ByteArray) : eqS a b = eqS b a := by simp only [eqS]; by_cases h : a = b <;> simp [h]; exact fun e => h e.symm
theorem ir_ {α : Type} (p : α → α → Bool) (hp : ∀ a b, p a b = p b a) : ∀ xs ys : List α, eT_ p xs ys = eT_ p ys xs
 | [], [] => rfl
 | [], _ :: _ => rfl
 | _ :: _, [] => rfl
 | x :: xs, y :: ys => by simp only [eT_, hp x y, ir_ p hp xs ys]
def ux_ : LC :=
 .seq (.ops [.s 4 (.mov (.const (.bool false)))]) (.seq (.ops [.m 5 0, .ll 6 5, .m 7 1, .ll 8 7, .bb 9 .geq false 6 8, .m 10 9, .g 11 10 true (.mov (.tmp 0)), .g 12 10 true (.mov (.tmp 1)), .g 13 10 true (.lenSl (.tmp
 12)), .g 14 10 true (.sliceSl 1 (.tmp 11) none (some (.tmp 13))), .g 15 10 true (.mov (.tmp 1)), .g 16 10 true (.call 147 [.tmp 14, .tmp 15]), .pf 17 10 16, .m 4 17]) .ret)
def so_ : LF := ⟨2, 18, ux_, [.tmp 4]⟩
theorem Cv_ : at_ Tryz.prog Tryz.f215 so_ := ai_
theorem i9_ (a b : List ByteArray) (ha : a.length ≤ 1048576) (h : List Row) : aa_ Tryz.prog 215 [.list 0 1 (a.map am_), .list 0 1 (b.map am_)] h (.val (.bool (cZ_ b a))) := by
 refine aj_ mixed Tryz.func215 Cv_ rfl rfl ?_ h
 by_cases hl : b.length ≤ a.length
 ·have hl' : ((b.length : Int) ≤ (a.length : Int)) := by omega
  simp (disch := omega) only [so_, ux_, hl', hl, bG_, fb_, go_sem, Nat.reduceEqDiff, reduceCtorEq, ↓reduceIte]
  refine aa_.call (dd_ (a.take b.length) b (by rw [length_take]; omega) _) ?_
  simp (disch := omega) only [go_sem, Nat.reduceEqDiff, ↓reduceIte]
  exact ae_ (by simp only [cZ_, hl, bm_, decide_true, Bool.true_and]; exact ir_ _ mg_ _ _)
 ·have hl' : ¬ ((b.length : Int) ≤ (a.length : Int)) := by omega
  simp (disch := omega) only [so_, ux_, hl', go_sem, Nat.reduceEqDiff, reduceCtorEq, ↓reduceIte]
  exact ae_ (by simp [cZ_, hl])
def way (n : ByteArray) (s : List ByteArray) (o : ByteArray) (os : List ByteArray) : Bool := decide (n = o) && (cZ_ s os || cZ_ os s)
def Do_ : LC :=
 .seq (.ops [.s 2 (.mov (.const (.bool false)))]) (.seq (.ops [.m 3 0, .c1 4 193 3, .m 2 4]) .ret)
def xh_ : LF := ⟨1, 5, Do_, [.tmp 2]⟩
theorem CG_ : at_ Tryz.prog Tryz.f158 xh_ := ai_
theorem bM_ (s : ByteArray) (hs : s.size ≤ 1048576) (h : List Row) : aa_ Tryz.prog 158 [.val (.string s)] h (.val (.bool (bV_ s))) := by
 refine aj_ mixed Tryz.func158 CG_ rfl rfl ?_ h
 simp (disch := omega) only [xh_, Do_, go_sem, reduceCtorEq, ↓reduceIte]
 repeat' (first
  | exact af_ _ _
  | simp (disch := omega) only [go_sem, ↓reduceIte]
  | (refine aa_.call (iy_ _ hs _) ?_)
  | (refine aa_.q (iy_ _ hs _) ?_)
  | ((first | (apply aF_; assumption) | (apply aE_; assumption) | (apply aO_; assumption) | (apply aN_; assumption)); intro hb; try simp only [hb])
  | ((first | apply ak_ | apply an_) <;> intro hb <;> (try simp only [hb]) <;> (first | have hp := aV_ hb | have hp := aW_ hb | have hp := aX_ hb | have hp := aU_ hb | skip)))
end Go.Proofs.YtfplhbjggecnpaaGreatDoor
