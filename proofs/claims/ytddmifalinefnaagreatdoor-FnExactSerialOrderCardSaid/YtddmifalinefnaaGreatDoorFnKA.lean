/-
 Contracts of functions. Conditions: as each theorem says.
-/
import Derived.Test.YtddmifalinefnaaGreatDoorFnO
import Derived.Test.YtddmifalinefnaaGreatDoorAwC
import Derived.Test.YtddmifalinefnaaGreatDoorPlNum
import Derived.Test.YtddmifalinefnaaGreatDoorPlKey
namespace Go.Proofs.YtddmifalinefnaaGreatDoor
open Tryz (prog)
open Nat (reduceEqDiff reduceLeDiff)
open List
open Go.AW
set_option linter.unusedVariables false
set_option linter.unusedSimpArgs false
set_option maxRecDepth 4000
def rH_ : LC :=
 .q [.o [.f 4], .q [.o [.m 6 0, .ll 7 6, .m 8 1, .ll 9 8, .bb 10 .neq false 7 9], .k 10 (.q [.o [.f 4], .ret]) .skip], .q [.o [.m 11 0, .ll 12 11, .ki 13 0], .block 0 (.loop (.q [.o [.bb 14 .lss false 13 12], .k 14 .skip
 (.exit 0), .block 1 (.q [.o [.m 15 13, .m 5 15], .dops [.m 16 0, .m 17 5, .ia 18 1 16 17, .ln 19 18, .m 20 1, .m 21 5, .ia 22 1 20 21, .ln 23 22, .bb 24 .neq false 19 23], .k 24 (.q [.o [.f 4], .ret]) .skip]), .o [.bk 25
 .add false 13 1, .m 13 25]]))], .o [.t 4], .ret]
def pq_ : LF := ⟨2, 26, rH_, [.tmp 4]⟩
theorem v2_ : av_ prog Tryz.f131 pq_ := am_
def sD_ : LC :=
 .q [.o [.f 4], .q [.o [.m 6 0, .ll 7 6, .m 8 1, .ll 9 8, .bb 10 .gtr false 7 9], .k 10 (.q [.o [.f 4], .ret]) .skip], .q [.o [.ki 5 0], .block 0 (.loop (.q [.q [.o [.m 11 5, .m 12 0, .ll 13 12, .bb 14 .lss false 11 13],
 .k 14 .skip (.exit 0)], .block 1 (.q [.dops [.m 17 0, .m 18 5, .ia 19 1 17 18, .ln 20 19, .m 21 1, .m 22 5, .ia 23 1 21 22, .ln 24 23, .bb 25 .neq false 20 24], .k 25 (.q [.o [.f 4], .ret]) .skip]), .o [.m 15 5, .bk 16
 .add false 15 1, .m 5 16]]))], .o [.t 4], .ret]
def pt_ : LF := ⟨2, 26, sD_, [.tmp 4]⟩
theorem vg_ : av_ prog Tryz.f124 pt_ := am_
abbrev bs (s : ByteArray) : List UInt8 := s.data.toList
abbrev bss (xs : List ByteArray) : List (List UInt8) := xs.map fun s => s.data.toList
theorem fV_ (s : ByteArray) : txt s.data.toList = s := (nb_ s).symm
theorem fh_ (s : ByteArray) : s.data.toList.length = s.size := by rw [Array.length_toList]; rfl
theorem jP_ (s : ByteArray) (hs : s.size ≤ 1048576) (h : List Row) : aa_ prog 156 [.val (.string s)] h (.val (.bool (db_ s.data.toList))) := by
 have := kC_ s.data.toList (by rw [fh_]; omega) h
 rwa [fV_] at this
theorem lB_ (s : ByteArray) (hs : s.size ≤ 1048576) (h : List Row) : aa_ prog 157 [.val (.string s)] h (.val (.int .i64 (bJ_ s.data.toList))) := by
 have := ir_ s.data.toList (by rw [fh_]; omega) h
 rwa [fV_] at this
def eqS (s t : ByteArray) : Bool := decide (s = t)
def hQ_ (xs ys : List ByteArray) : Bool := fv_ eqS xs ys
theorem hd_ (xs ys : List ByteArray) (hx : xs.length ≤ 1048576) (h : List Row) : aa_ prog 131 [.list 0 1 (xs.map aF_), .list 0 1 (ys.map aF_)] h (.val (.bool (hQ_ xs ys))) := by
 refine ap_ mixed Tryz.func131 v2_ rfl rfl ?_ h
 by_cases hl : xs.length = ys.length
 ·have hl' : ((xs.length : Int) = (ys.length : Int)) = True := by simp [hl]
  simp (disch := omega) only [pq_, rH_, hl', ar_, go_sem, reduceEqDiff, reduceCtorEq, ↓reduceIte]
  refine aB_ (fun n t h => ∃ k : Nat, t 0 = .list 0 1 (xs.map aF_) ∧ t 1 = .list 0 1 (ys.map aF_) ∧ t 12 = .val (.int .i64 xs.length) ∧ t 13 = .val (.int .i64 k) ∧ h = [] ∧ n = xs.length - k ∧ k ≤ xs.length ∧ hQ_ xs ys = fv_ eqS (xs.drop k) (ys.drop k)) xs.length ?_ ?_
  ·exact ⟨0, rfl, rfl, rfl, rfl, rfl, rfl, Nat.zero_le _, rfl⟩
  ·rintro J hJ n t h ⟨k, t0, t1, t12, t13, rfl, rfl, hk, hS⟩
   by_cases hlt : k < xs.length
   ·have hlt2 : k < ys.length := by omega
    rw [lM_ eqS xs ys k hlt hlt2] at hS
    by_cases e : xs[k] = ys[k]
    ·simp (disch := omega) only [t0, t1, t12, t13, hlt, e, ar_, go_sem, reduceEqDiff, reduceCtorEq, ↓reduceIte, aq_]
     exact ⟨xs.length - (k + 1), by omega, hJ _ _ _ ⟨k + 1, by simp [upd, t0], by simp [upd, t1], by simp [upd, t12], by simp [upd], rfl, rfl, by omega, by rw [hS]; simp [eqS, e]⟩⟩
    ·simp (disch := omega) only [t0, t1, t12, t13, hlt, e, ar_, go_sem, reduceEqDiff, reduceCtorEq, ↓reduceIte, aq_]
     exact ac_ (by rw [hS]; simp [eqS, e])
   ·simp (disch := omega) only [t0, t1, t12, t13, hlt, ar_, go_sem, reduceEqDiff, reduceCtorEq, ↓reduceIte, aq_]
    exact ac_ (by rw [hS, m6_ _ _ _ _ (by omega) (by omega)])
 ·have hl' : ((xs.length : Int) = (ys.length : Int)) = False := by simp; omega
  simp (disch := omega) only [pq_, rH_, hl', ar_, go_sem, reduceEqDiff, reduceCtorEq, ↓reduceIte]
  exact ac_ (by rw [hQ_, jC_ _ _ _ hl])
def fi_ (xs ys : List ByteArray) : Bool := decide (xs.length ≤ ys.length) && fv_ eqS xs (ys.take xs.length)
theorem do_ (xs ys : List ByteArray) (hx : xs.length ≤ 1048576) (h : List Row) : aa_ prog 124 [.list 0 1 (xs.map aF_), .list 0 1 (ys.map aF_)] h (.val (.bool (fi_ xs ys))) := by
 refine ap_ mixed Tryz.func124 vg_ rfl rfl ?_ h
 by_cases hl : ys.length < xs.length
 ·simp (disch := omega) only [pt_, sD_, hl, ar_, go_sem, reduceEqDiff, reduceCtorEq, ↓reduceIte]
  exact ac_ (by simp [fi_]; omega)
 ·simp (disch := omega) only [pt_, sD_, hl, ar_, go_sem, reduceEqDiff, reduceCtorEq, ↓reduceIte]
  have hT : (ys.take xs.length).length = xs.length := by simp; omega
  refine aB_ (fun n t h => ∃ k : Nat, t 0 = .list 0 1 (xs.map aF_) ∧ t 1 = .list 0 1 (ys.map aF_) ∧ t 5 = .val (.int .i64 k) ∧ h = [] ∧ n = xs.length - k ∧ k ≤ xs.length ∧ fi_ xs ys = fv_ eqS (xs.drop k) ((ys.take xs.length).drop k)) xs.length ?_ ?_
  ·exact ⟨0, rfl, rfl, rfl, rfl, rfl, Nat.zero_le _, by simp [fi_]; omega⟩
  ·rintro J hJ n t h ⟨k, t0, t1, t5, rfl, rfl, hk, hS⟩
   by_cases hlt : k < xs.length
   ·have hlt2 : k < ys.length := by omega
    rw [lM_ eqS xs _ k hlt (by omega)] at hS
    have hg : (ys.take xs.length)[k]'(by omega) = ys[k] := by simp
    rw [hg] at hS
    by_cases e : xs[k] = ys[k]
    ·simp (disch := omega) only [t0, t1, t5, hlt, e, ar_, go_sem, reduceEqDiff, reduceCtorEq, ↓reduceIte, aq_]
     exact ⟨xs.length - (k + 1), by omega, hJ _ _ _ ⟨k + 1, by simp [upd, t0], by simp [upd, t1], by simp [upd], rfl, rfl, by omega, by rw [hS]; simp [eqS, e]⟩⟩
    ·simp (disch := omega) only [t0, t1, t5, hlt, e, ar_, go_sem, reduceEqDiff, reduceCtorEq, ↓reduceIte, aq_]
     exact ac_ (by rw [hS]; simp [eqS, e])
   ·simp (disch := omega) only [t0, t1, t5, hlt, ar_, go_sem, reduceEqDiff, reduceCtorEq, ↓reduceIte, aq_]
    exact ac_ (by rw [hS, m6_ _ _ _ _ (by omega) (by omega)])
def df_ (b : Int) : Bool := decide (97 ≤ b) && decide (b ≤ 122) || decide (65 ≤ b) && decide (b ≤ 90)
def eY_ (b : Int) : Bool := decide (48 ≤ b) && decide (b ≤ 57)
def by_ (s : ByteArray) : Bool := decide (1 ≤ (s.size : Int)) && decide ((s.size : Int) ≤ 24)
def c92 : LC :=
 .q [.o [.f 2], .o [.m 3 0, .s 4 (.bin .leq false (.const (.int .u8 97)) (.tmp 3)), .m 5 4, .gm 6 5 true 0, .g 7 5 true (.bin .leq false (.tmp 6) (.const (.int .u8 122))), .pf 8 5 7, .m 9 8, .gm 10 9 false 0, .g 11 9
 false (.bin .leq false (.const (.int .u8 65)) (.tmp 10)), .gm 12 9 false 11, .gm 13 12 true 0, .g 14 12 true (.bin .leq false (.tmp 13) (.const (.int .u8 90))), .g 15 9 false (.pick (.tmp 12) (.tmp 14) (.const (.bool
 false))), .pt 16 9 15, .m 2 16], .ret]
def vs_ : LF := ⟨1, 17, c92, [.tmp 2]⟩
theorem xN_ : av_ prog Tryz.f92 vs_ := am_
theorem dQ_ (b : Int)  (h : List Row) : aa_ prog 92 [.val (.int .u8 b)] h (.val (.bool (df_ b))) := by
 refine ap_ mixed Tryz.func92 xN_ rfl rfl ?_ h
 simp (disch := omega) only [vs_, c92, go_sem, reduceCtorEq, ↓reduceIte]
 repeat' (first
  | exact ae_ _ _
  | (refine ac_ ?_; first | rfl | (simp only [df_, *, Bool.true_and, Bool.and_false, Bool.false_and, Bool.true_or, Bool.false_or, decide_true, decide_false, Bool.and_self, Bool.or_self]; done) | (simp [df_, *]; done))
  | simp (disch := omega) only [go_sem, reduceEqDiff, reduceCtorEq, ↓reduceIte]
  | ((first | (apply aM_; assumption) | (apply aN_; assumption) | (apply a6_; assumption) | (apply a5_; assumption)); intro hb; try simp only [hb])
  | ((first | (apply ay_; assumption) | (apply ax_; assumption) | (apply aG_; assumption) | (apply aH_; assumption)); intro hb; try simp only [hb])
  | ((first | apply at_ | apply aw_ | apply ai_ | apply ak_) <;> intro hb <;> (try simp only [hb]) <;> (first | have hp := aO_ hb | have hp := aQ_ hb | have hp := aR_ hb | have hp := aP_ hb | skip)))
def uI_ : LC :=
 .q [.o [.f 2], .o [.m 3 0, .s 4 (.bin .geq false (.tmp 3) (.const (.int .u8 97))), .m 5 4, .gm 6 5 true 0, .g 7 5 true (.bin .leq false (.tmp 6) (.const (.int .u8 122))), .pf 8 5 7, .m 9 8, .gm 10 9 false 0, .g 11 9
 false (.bin .geq false (.tmp 10) (.const (.int .u8 65))), .gm 12 9 false 11, .gm 13 12 true 0, .g 14 12 true (.bin .leq false (.tmp 13) (.const (.int .u8 90))), .g 15 9 false (.pick (.tmp 12) (.tmp 14) (.const (.bool
 false))), .pt 16 9 15, .m 2 16], .ret]
def te_ : LF := ⟨1, 17, uI_, [.tmp 2]⟩
theorem vO_ : av_ prog Tryz.f140 te_ := am_
theorem cf_ (b : Int)  (h : List Row) : aa_ prog 140 [.val (.int .u8 b)] h (.val (.bool (df_ b))) := by
 refine ap_ mixed Tryz.func140 vO_ rfl rfl ?_ h
 simp (disch := omega) only [te_, uI_, go_sem, reduceCtorEq, ↓reduceIte]
 repeat' (first
  | exact ae_ _ _
  | (refine ac_ ?_; first | rfl | (simp only [df_, *, Bool.true_and, Bool.and_false, Bool.false_and, Bool.true_or, Bool.false_or, decide_true, decide_false, Bool.and_self, Bool.or_self]; done) | (simp [df_, *]; done))
  | simp (disch := omega) only [go_sem, reduceEqDiff, reduceCtorEq, ↓reduceIte]
  | ((first | (apply aM_; assumption) | (apply aN_; assumption) | (apply a6_; assumption) | (apply a5_; assumption)); intro hb; try simp only [hb])
  | ((first | (apply ay_; assumption) | (apply ax_; assumption) | (apply aG_; assumption) | (apply aH_; assumption)); intro hb; try simp only [hb])
  | ((first | apply at_ | apply aw_ | apply ai_ | apply ak_) <;> intro hb <;> (try simp only [hb]) <;> (first | have hp := aO_ hb | have hp := aQ_ hb | have hp := aR_ hb | have hp := aP_ hb | skip)))
def c93 : LC :=
 .q [.o [.f 2], .o [.m 3 0, .s 4 (.bin .leq false (.const (.int .u8 48)) (.tmp 3)), .m 5 4, .gm 6 5 true 0, .g 7 5 true (.bin .leq false (.tmp 6) (.const (.int .u8 57))), .pf 8 5 7, .m 2 8], .ret]
def vi_ : LF := ⟨1, 9, c93, [.tmp 2]⟩
theorem wB_ : av_ prog Tryz.f93 vi_ := am_
theorem d4_ (b : Int)  (h : List Row) : aa_ prog 93 [.val (.int .u8 b)] h (.val (.bool (eY_ b))) := by
 refine ap_ mixed Tryz.func93 wB_ rfl rfl ?_ h
 simp (disch := omega) only [vi_, c93, go_sem, reduceCtorEq, ↓reduceIte]
 repeat' (first
  | exact ae_ _ _
  | (refine ac_ ?_; first | rfl | (simp only [eY_, *, Bool.true_and, Bool.false_and, decide_true, decide_false]; done) | (simp [eY_, *]; done))
  | simp (disch := omega) only [go_sem, reduceEqDiff, reduceCtorEq, ↓reduceIte]
  | ((first | (apply aM_; assumption) | (apply aN_; assumption) | (apply a6_; assumption) | (apply a5_; assumption)); intro hb; try simp only [hb])
  | ((first | (apply ay_; assumption) | (apply ax_; assumption) | (apply aG_; assumption) | (apply aH_; assumption)); intro hb; try simp only [hb])
  | ((first | apply at_ | apply aw_ | apply ai_ | apply ak_) <;> intro hb <;> (try simp only [hb]) <;> (first | have hp := aO_ hb | have hp := aQ_ hb | have hp := aR_ hb | have hp := aP_ hb | skip)))
theorem dp_ (b : Int)  (h : List Row) : aa_ prog 141 [.val (.int .u8 b)] h (.val (.bool (eY_ b))) := by
 refine ap_ mixed Tryz.func141 rk_ rfl rfl ?_ h
 simp (disch := omega) only [pc_, sK_, go_sem, reduceCtorEq, ↓reduceIte]
 repeat' (first
  | exact ae_ _ _
  | (refine ac_ ?_; first | rfl | (simp only [eY_, *, Bool.true_and, Bool.false_and, decide_true, decide_false]; done) | (simp [eY_, *]; done))
  | simp (disch := omega) only [go_sem, reduceEqDiff, reduceCtorEq, ↓reduceIte]
  | ((first | (apply aM_; assumption) | (apply aN_; assumption) | (apply a6_; assumption) | (apply a5_; assumption)); intro hb; try simp only [hb])
  | ((first | (apply ay_; assumption) | (apply ax_; assumption) | (apply aG_; assumption) | (apply aH_; assumption)); intro hb; try simp only [hb])
  | ((first | apply at_ | apply aw_ | apply ai_ | apply ak_) <;> intro hb <;> (try simp only [hb]) <;> (first | have hp := aO_ hb | have hp := aQ_ hb | have hp := aR_ hb | have hp := aP_ hb | skip)))
def c96 : LC :=
 .q [.o [.f 2], .o [.m 3 0, .s 4 (.lenStr (.tmp 3)), .bk 5 .geq false 4 1, .m 6 5, .gm 7 6 true 0, .g 8 6 true (.lenStr (.tmp 7)), .g 9 6 true (.bin .leq false (.tmp 8) (.const (.int .i64 24))), .pf 10 6 9, .m 2 10],
 .ret]
def we_ : LF := ⟨1, 11, c96, [.tmp 2]⟩
theorem w7_ : av_ prog Tryz.f96 we_ := am_
theorem eD_ (s : ByteArray)  (h : List Row) : aa_ prog 96 [.val (.string s)] h (.val (.bool (by_ s))) := by
 refine ap_ mixed Tryz.func96 w7_ rfl rfl ?_ h
 simp (disch := omega) only [we_, c96, go_sem, reduceCtorEq, ↓reduceIte]
 repeat' (first
  | exact ae_ _ _
  | (refine ac_ ?_; first | rfl | (simp only [by_, *, Bool.true_and, Bool.false_and, decide_true, decide_false]; done) | (simp [by_, *]; done))
  | simp (disch := omega) only [go_sem, reduceEqDiff, reduceCtorEq, ↓reduceIte]
  | ((first | (apply aM_; assumption) | (apply aN_; assumption) | (apply a6_; assumption) | (apply a5_; assumption)); intro hb; try simp only [hb])
  | ((first | (apply ay_; assumption) | (apply ax_; assumption) | (apply aG_; assumption) | (apply aH_; assumption)); intro hb; try simp only [hb])
  | ((first | apply at_ | apply aw_ | apply ai_ | apply ak_) <;> intro hb <;> (try simp only [hb]) <;> (first | have hp := aO_ hb | have hp := aQ_ hb | have hp := aR_ hb | have hp := aP_ hb | skip)))
def c86 : LC :=
 .q [.o [.f 2], .o [.m 3 0, .s 4 (.lenStr (.tmp 3)), .bk 5 .geq false 4 1, .m 6 5, .gm 7 6 true 0, .g 8 6 true (.lenStr (.tmp 7)), .g 9 6 true (.bin .leq false (.tmp 8) (.const (.int .i64 24))), .pf 10 6 9, .m 2 10],
 .ret]
def uA_ : LF := ⟨1, 11, c86, [.tmp 2]⟩
theorem xg_ : av_ prog Tryz.f86 uA_ := am_
theorem cL_ (s : ByteArray)  (h : List Row) : aa_ prog 86 [.val (.string s)] h (.val (.bool (by_ s))) := by
 refine ap_ mixed Tryz.func86 xg_ rfl rfl ?_ h
 simp (disch := omega) only [uA_, c86, go_sem, reduceCtorEq, ↓reduceIte]
 repeat' (first
  | exact ae_ _ _
  | (refine ac_ ?_; first | rfl | (simp only [by_, *, Bool.true_and, Bool.false_and, decide_true, decide_false]; done) | (simp [by_, *]; done))
  | simp (disch := omega) only [go_sem, reduceEqDiff, reduceCtorEq, ↓reduceIte]
  | ((first | (apply aM_; assumption) | (apply aN_; assumption) | (apply a6_; assumption) | (apply a5_; assumption)); intro hb; try simp only [hb])
  | ((first | (apply ay_; assumption) | (apply ax_; assumption) | (apply aG_; assumption) | (apply aH_; assumption)); intro hb; try simp only [hb])
  | ((first | apply at_ | apply aw_ | apply ai_ | apply ak_) <;> intro hb <;> (try simp only [hb]) <;> (first | have hp := aO_ hb | have hp := aQ_ hb | have hp := aR_ hb | have hp := aP_ hb | skip)))
def c66 : LC :=
 .q [.o [.f 2], .o [.m 3 0, .c1 4 86 3, .m 2 4], .ret]
def v0_ : LF := ⟨1, 5, c66, [.tmp 2]⟩
theorem w2_ : av_ prog Tryz.f66 v0_ := am_
theorem eN_ (s : ByteArray)  (h : List Row) : aa_ prog 66 [.val (.string s)] h (.val (.bool (by_ s))) := by
 refine ap_ mixed Tryz.func66 w2_ rfl rfl ?_ h
 simp (disch := omega) only [v0_, c66, go_sem, reduceCtorEq, ↓reduceIte]
 repeat' (first
  | exact ae_ _ _
  | (refine ac_ ?_; first | rfl | (simp only [by_, *, Bool.and_true, Bool.true_and, Bool.and_false, Bool.false_and, Bool.or_true, Bool.true_or, Bool.or_false, Bool.false_or, Bool.not_true, Bool.not_false, decide_true, decide_false, Bool.and_self, Bool.or_self]; done) | (simp [by_, *]; done))
  | simp (disch := omega) only [go_sem, ↓reduceIte]
  | (refine aa_.call (cL_ _ _) ?_)
  | (refine aa_.q (cL_ _ _) ?_)
  | ((first | (apply ay_; assumption) | (apply ax_; assumption) | (apply aG_; assumption) | (apply aH_; assumption)); intro hb; try simp only [hb])
  | ((first | apply ai_ | apply ak_) <;> intro hb <;> (try simp only [hb]) <;> (first | have hp := aO_ hb | have hp := aQ_ hb | have hp := aR_ hb | have hp := aP_ hb | skip)))
def vX_ : LC :=
 .q [.o [.ki 4 0], .q [.o [.m 6 0, .ll 7 6, .ki 8 0], .block 0 (.loop (.q [.o [.bb 9 .lss false 8 7], .k 9 .skip (.exit 0), .block 1 (.q [.o [.m 10 8, .m 5 10], .o [.m 11 1, .m 12 0, .m 13 5, .ia 14 1 12 13, .ln 15 14, .s
 16 (.callv (.tmp 11) [.tmp 15])], .k 16 (.q [.o [.m 17 5, .m 4 17], .ret]) .skip]), .o [.bk 18 .add false 8 1, .m 8 18]]))], .o [.s 4 (.mov (.const (.int .i64 (-1))))], .ret]
def s6_ : LF := ⟨2, 19, vX_, [.tmp 4]⟩
theorem u5_ : av_ prog Tryz.f130 s6_ := am_
theorem f3_ (xs : List ByteArray) (p : ByteArray → Bool) (g : Nat) (hx : xs.length ≤ 1048576) (hc : b0_ prog g = true) (hp : ∀ x ∈ xs, ∀ h, aa_ prog g [.val (.string x)] h (.val (.bool (p x)))) (h : List Row) :
 aa_ prog 130 [.list 0 1 (xs.map aF_), .fn g [] []] h (.val (.int .i64 (bg_ p xs 0))) := by
 refine ap_ mixed Tryz.func130 u5_ rfl rfl ?_ h
 simp (disch := omega) only [s6_, vX_, go_sem, reduceCtorEq, Int.reduceNeg, ↓reduceIte]
 refine aB_ (fun n t h => ∃ k : Nat, t 0 = .list 0 1 (xs.map aF_) ∧ t 1 = .fn g [] [] ∧ t 6 = .list 0 1 (xs.map aF_) ∧ t 7 = .val (.int .i64 xs.length) ∧ t 8 = .val (.int .i64 k) ∧ n = xs.length - k ∧ k ≤ xs.length ∧ (bg_ p xs 0 = bg_ p (xs.drop k) k)) (xs.length) ?_ ?_
 ·exact ⟨0, rfl, rfl, rfl, rfl, rfl, rfl, Nat.zero_le _, rfl⟩
 ·rintro J hJ n t h ⟨k, t0, t1, t6, t7, k8, rfl, hk, hS⟩
  by_cases hlt : k < xs.length
  ·skip
   rw [dw_ p xs k hlt] at hS
   simp (disch := omega) only [t0, t1, t7, k8, hlt, hc, aF_, go_sem, reduceEqDiff, reduceCtorEq, Int.reduceNeg, ↓reduceIte]
   repeat' (first
    | exact ae_ _ _
    | exact ⟨xs.length - (k + 1), by omega, hJ _ _ _ ⟨k + 1, by simp [upd, t0], by simp [upd, t1], by simp [upd, t6], by simp [upd, t7], by simp [upd], rfl, by omega, by rw [hS]; simp [*]⟩⟩
    | (refine aC_ ?_; rw [hS]; simp [*]; done)
    | (refine aC_ ?_; rw [hS, b8_ _ _ _ (by omega)])
    | simp (disch := omega) only [k8, go_sem, reduceEqDiff, Int.reduceNeg, ↓reduceIte]
    | (refine aa_.call (hp xs[k] (getElem_mem hlt) _) ?_)
    | (refine aa_.q (hp xs[k] (getElem_mem hlt) _) ?_)
    | ((first | (apply ay_; assumption) | (apply ax_; assumption) | (apply aG_; assumption) | (apply aH_; assumption)); intro hb; try simp only [hb])
    | ((first | apply ai_ | apply ak_) <;> intro hb <;> (try simp only [hb]) <;> (first | have hp := aO_ hb | have hp := aQ_ hb | have hp := aR_ hb | have hp := aP_ hb | skip)))
  ·skip
   simp (disch := omega) only [t7, k8, hlt, go_sem, Int.reduceNeg, ↓reduceIte]
   repeat' (first
    | exact ae_ _ _
    | (refine aC_ ?_; rw [hS]; simp [*]; done)
    | (refine aC_ ?_; rw [hS, b8_ _ _ _ (by omega)])
    | simp (disch := omega) only [t0, t1, t6, t7, k8, go_sem, reduceEqDiff, Nat.reduceAdd, reduceLeDiff, reduceCtorEq, Int.reduceLT, Int.reduceLE, Int.reduceNeg, Int.reduceSub, Int.reduceAdd, Int.reduceToNat, ↓reduceIte]
    | (refine aa_.call (hp xs[k] (getElem_mem hlt) _) ?_)
    | (refine aa_.q (hp xs[k] (getElem_mem hlt) _) ?_)
    | ((first | (apply ay_; assumption) | (apply ax_; assumption) | (apply aG_; assumption) | (apply aH_; assumption)); intro hb; try simp only [hb])
    | ((first | apply ai_ | apply ak_) <;> intro hb <;> (try simp only [hb]) <;> (first | have hp := aO_ hb | have hp := aQ_ hb | have hp := aR_ hb | have hp := aP_ hb | skip)))
def c98 : LC :=
 .q [.o [.f 4], .o [.m 5 0, .m 6 1, .c2 7 130 5 6, .bk 8 .geq false 7 0, .m 4 8], .ret]
def us_ : LF := ⟨2, 9, c98, [.tmp 4]⟩
theorem xR_ : av_ prog Tryz.f98 us_ := am_
theorem bN_ (xs : List ByteArray) (p : ByteArray → Bool) (g : Nat) (hx : xs.length ≤ 1048576) (hc : b0_ prog g = true) (hp : ∀ x ∈ xs, ∀ h, aa_ prog g [.val (.string x)] h (.val (.bool (p x)))) (h : List Row) :
 aa_ prog 98 [.list 0 1 (xs.map aF_), .fn g [] []] h (.val (.bool (xs.any p))) := by
 refine ap_ mixed Tryz.func98 xR_ rfl rfl ?_ h
 simp (disch := omega) only [us_, c98, go_sem, reduceEqDiff, reduceCtorEq, ↓reduceIte]
 refine aa_.call (f3_ xs p g hx hc hp _) ?_
 simp (disch := omega) only [go_sem, ↓reduceIte]
 exact ac_ (fG_ p xs)
def ba_ (xs : List ByteArray) : Bool := decide ((xs.length : Int) ≤ 4) && xs.all by_
def c99 : LC :=
 .q [.o [.f 2], .o [.m 3 0, .c1 4 96 3, .nt 5 4, .m 2 5], .ret]
def ut_ : LF := ⟨1, 6, c99, [.tmp 2]⟩
theorem w8_ : av_ prog Tryz.f99 ut_ := am_
theorem f9_ (s : ByteArray)  (h : List Row) : aa_ prog 99 [.val (.string s)] h (.val (.bool (!by_ s))) := by
 refine ap_ mixed Tryz.func99 w8_ rfl rfl ?_ h
 simp (disch := omega) only [ut_, c99, go_sem, reduceCtorEq, ↓reduceIte]
 repeat' (first
  | exact ae_ _ _
  | simp (disch := omega) only [go_sem, ↓reduceIte]
  | (refine aa_.call (eD_ _ _) ?_)
  | (refine aa_.q (eD_ _ _) ?_)
  | ((first | (apply ay_; assumption) | (apply ax_; assumption) | (apply aG_; assumption) | (apply aH_; assumption)); intro hb; try simp only [hb])
  | ((first | apply ai_ | apply ak_) <;> intro hb <;> (try simp only [hb]) <;> (first | have hp := aO_ hb | have hp := aQ_ hb | have hp := aR_ hb | have hp := aP_ hb | skip)))
theorem oZ_ {α : Type} (p : α → Bool) (xs : List α) : (!xs.any fun x => !p x) = xs.all p := by
 induction xs with
 | nil => rfl
 | cons x xs ih => simp only [any_cons, all_cons, Bool.not_or, Bool.not_not, ih]
def c76 : LC :=
 .q [.o [.f 2], .o [.m 3 0, .ll 4 3, .bk 5 .leq false 4 4, .m 6 5, .gm 7 6 true 0, .g 8 6 true (.call 98 [.tmp 7, .func 99]), .gu 9 6 true 8, .pf 10 6 9, .m 2 10], .ret]
def wa_ : LF := ⟨1, 11, c76, [.tmp 2]⟩
theorem w5_ : av_ prog Tryz.f76 wa_ := am_
theorem bV_ (xs : List ByteArray) (hx : xs.length ≤ 1048576) (h : List Row) : aa_ prog 76 [.list 0 1 (xs.map aF_)] h (.val (.bool (ba_ xs))) := by
 refine ap_ mixed Tryz.func76 w5_ rfl rfl ?_ h
 simp (disch := omega) only [wa_, c76, go_sem, reduceCtorEq, ↓reduceIte]
 repeat' (first
  | exact ae_ _ _
  | (refine ac_ ?_; simp only [oZ_, ba_, *, Bool.true_and, Bool.false_and, decide_true, decide_false]; done)
  | (refine ac_ ?_; first | rfl | (simp only [ba_, *, Bool.and_true, Bool.true_and, Bool.and_false, Bool.false_and, Bool.or_true, Bool.true_or, Bool.or_false, Bool.false_or, Bool.not_true, Bool.not_false, decide_true, decide_false, Bool.and_self, Bool.or_self]; done) | (simp [ba_, *]; done))
  | simp (disch := omega) only [go_sem, reduceEqDiff, reduceCtorEq, ↓reduceIte]
  | (refine aa_.call (bN_ _ (fun s => !by_ s) 99 hx (by kernel_rfl) (fun x _ h => f9_ x h) _) ?_)
  | (refine aa_.q (bN_ _ (fun s => !by_ s) 99 hx (by kernel_rfl) (fun x _ h => f9_ x h) _) ?_)
  | ((first | (apply aM_; assumption) | (apply aN_; assumption) | (apply a6_; assumption) | (apply a5_; assumption)); intro hb; try simp only [hb])
  | ((first | (apply ay_; assumption) | (apply ax_; assumption) | (apply aG_; assumption) | (apply aH_; assumption)); intro hb; try simp only [hb])
  | ((first | apply at_ | apply aw_ | apply ai_ | apply ak_) <;> intro hb <;> (try simp only [hb]) <;> (first | have hp := aO_ hb | have hp := aQ_ hb | have hp := aR_ hb | have hp := aP_ hb | skip)))
def c88 : LC :=
 .q [.o [.f 2], .q [.o [.m 4 0, .ll 5 4, .bk 6 .gtr false 5 4], .k 6 (.q [.o [.f 2], .ret]) .skip], .q [.o [.ki 3 0], .block 0 (.loop (.q [.q [.o [.m 7 3, .m 8 0, .ll 9 8, .bb 10 .lss false 7 9], .k 10 .skip (.exit 0)],
 .block 1 (.q [.o [.m 13 0, .m 14 3, .ia 15 1 13 14, .ln 16 15, .c1 17 86 16, .nt 18 17], .k 18 (.q [.o [.f 2], .ret]) .skip]), .o [.m 11 3, .bk 12 .add false 11 1, .m 3 12]]))], .o [.t 2], .ret]
def r6_ : LF := ⟨1, 19, c88, [.tmp 2]⟩
theorem wz_ : av_ prog Tryz.f88 r6_ := am_
theorem fn_ (xs : List ByteArray) (hx : xs.length ≤ 1048576) (h : List Row) : aa_ prog 88 [.list 0 1 (xs.map aF_)] h (.val (.bool (ba_ xs))) := by
 refine ap_ mixed Tryz.func88 wz_ rfl rfl ?_ h
 by_cases h4 : (xs.length : Int) ≤ 4
 ·have h4' : ((4 : Int) < xs.length) = False := by simp; omega
  have hS0 : ba_ xs = xs.all by_ := by simp [ba_, h4]
  simp (disch := omega) only [r6_, c88, h4', go_sem, reduceCtorEq, ↓reduceIte]
  refine aB_ (fun n t h => ∃ k : Nat, t 0 = .list 0 1 (xs.map aF_) ∧ t 3 = .val (.int .i64 k) ∧ n = xs.length - k ∧ k ≤ xs.length ∧ (xs.all by_ = (xs.drop k).all by_)) (xs.length) ?_ ?_
  ·exact ⟨0, rfl, rfl, rfl, Nat.zero_le _, rfl⟩
  ·rintro J hJ n t h ⟨k, t0, k3, rfl, hk, hS⟩
   by_cases hlt : k < xs.length
   ·skip
    rw [mV_ by_ xs k hlt] at hS
    simp (disch := omega) only [t0, k3, hlt, aF_, go_sem, reduceEqDiff, reduceCtorEq, ↓reduceIte]
    repeat' (first
     | exact ae_ _ _
     | exact ⟨xs.length - (k + 1), by omega, hJ _ _ _ ⟨k + 1, by simp [upd, t0], by simp [upd], rfl, by omega, by rw [hS]; first | (simp only [*, Bool.true_and]; done) | simp [*]⟩⟩
     | (refine ac_ ?_; rw [hS0, hS]; first | (simp only [*, Bool.false_and]; done) | (simp [*]; done))
     | (refine ac_ ?_; rw [hS0, hS, jh_ _ _ _ (by omega)])
     | simp (disch := omega) only [k3, go_sem, reduceEqDiff, ↓reduceIte]
     | (refine aa_.call (cL_ _ _) ?_)
     | (refine aa_.q (cL_ _ _) ?_)
     | ((first | (apply ay_; assumption) | (apply ax_; assumption) | (apply aG_; assumption) | (apply aH_; assumption)); intro hb; try simp only [hb])
     | ((first | apply ai_ | apply ak_) <;> intro hb <;> (try simp only [hb]) <;> (first | have hp := aO_ hb | have hp := aQ_ hb | have hp := aR_ hb | have hp := aP_ hb | skip)))
   ·skip
    simp (disch := omega) only [t0, k3, hlt, go_sem, reduceEqDiff, reduceCtorEq, ↓reduceIte]
    repeat' (first
     | exact ae_ _ _
     | (refine ac_ ?_; rw [hS0, hS]; first | (simp only [*, Bool.and_true, Bool.true_and, Bool.and_false, Bool.false_and, Bool.or_true, Bool.true_or, Bool.or_false, Bool.false_or, Bool.not_true, Bool.not_false, decide_true, decide_false, Bool.and_self, Bool.or_self]; done) | (simp [*]; done))
     | (refine ac_ ?_; rw [hS0, hS, jh_ _ _ _ (by omega)])
     | simp (disch := omega) only [t0, k3, go_sem, reduceEqDiff, Nat.reduceAdd, reduceLeDiff, reduceCtorEq, Int.reduceLT, Int.reduceLE, Int.reduceNeg, Int.reduceSub, Int.reduceAdd, Int.reduceToNat, ↓reduceIte]
     | (refine aa_.call (cL_ _ _) ?_)
     | (refine aa_.q (cL_ _ _) ?_)
     | ((first | (apply ay_; assumption) | (apply ax_; assumption) | (apply aG_; assumption) | (apply aH_; assumption)); intro hb; try simp only [hb])
     | ((first | apply ai_ | apply ak_) <;> intro hb <;> (try simp only [hb]) <;> (first | have hp := aO_ hb | have hp := aQ_ hb | have hp := aR_ hb | have hp := aP_ hb | skip)))
 ·have h4' : ((4 : Int) < xs.length) = True := by simp; omega
  simp (disch := omega) only [r6_, c88, h4', go_sem, reduceCtorEq, ↓reduceIte]
  exact ac_ (by simp [ba_, h4])
def c68 : LC :=
 .q [.o [.f 2], .o [.m 3 0, .c1 4 88 3, .m 2 4], .ret]
def uY_ : LF := ⟨1, 5, c68, [.tmp 2]⟩
theorem w3_ : av_ prog Tryz.f68 uY_ := am_
theorem cN_ (xs : List ByteArray) (hx : xs.length ≤ 1048576) (h : List Row) : aa_ prog 68 [.list 0 1 (xs.map aF_)] h (.val (.bool (ba_ xs))) := by
 refine ap_ mixed Tryz.func68 w3_ rfl rfl ?_ h
 simp (disch := omega) only [uY_, c68, go_sem, reduceCtorEq, ↓reduceIte]
 repeat' (first
  | exact ae_ _ _
  | simp (disch := omega) only [go_sem, ↓reduceIte]
  | (refine aa_.call (fn_ _ hx _) ?_)
  | (refine aa_.q (fn_ _ hx _) ?_)
  | ((first | (apply ay_; assumption) | (apply ax_; assumption) | (apply aG_; assumption) | (apply aH_; assumption)); intro hb; try simp only [hb])
  | ((first | apply ai_ | apply ak_) <;> intro hb <;> (try simp only [hb]) <;> (first | have hp := aO_ hb | have hp := aQ_ hb | have hp := aR_ hb | have hp := aP_ hb | skip)))
def cQ_ : List Int → Nat → Bool
 | [], _ => true
 | b :: bs, k => (df_ b || (decide (k = 0) && decide (b = 37)) || (!decide (k = 0) && eY_ b)) && cQ_ bs (k + 1)
def bQ_ (s : ByteArray) : Bool := decide (1 ≤ (s.size : Int)) && decide ((s.size : Int) ≤ 8) && cQ_ (dj_ s) 0
theorem eM_ (bs : List Int) (k : Nat) (h : k < bs.length) : cQ_ (bs.drop k) k = ((df_ bs[k] || (decide (k = 0) && decide (bs[k] = 37)) || (!decide (k = 0) && eY_ bs[k])) && cQ_ (bs.drop (k + 1)) (k + 1)) := by
 rw [drop_eq_getElem_cons h]; rfl
theorem e7_ (bs : List Int) (k : Nat) (h : bs.length ≤ k) : cQ_ (bs.drop k) k = true := by
 rw [drop_eq_nil_of_le h]; rfl
def c73 : LC :=
 .q [.o [.f 2], .q [.o [.ki 3 0], .block 0 (.loop (.q [.q [.o [.m 5 3, .m 6 0, .s 7 (.lenStr (.tmp 6)), .bb 8 .lss false 5 7], .k 8 .skip (.exit 0)], .block 1 (.q [.o [.m 11 0, .m 12 3, .s 13 (.indexStr (.tmp 11) (.tmp
 12)), .c1 14 92 13, .m 15 14, .gm 16 15 false 3, .g 17 15 false (.bin .eql false (.tmp 16) (.const (.int .i64 0))), .gm 18 15 false 17, .gm 19 18 true 0, .gm 20 18 true 3, .g 21 18 true (.indexStr (.tmp 19) (.tmp 20)),
 .g 22 18 true (.bin .eql false (.tmp 21) (.const (.int .u8 37))), .g 23 15 false (.pick (.tmp 18) (.tmp 22) (.const (.bool false))), .pt 24 15 23, .m 4 24], .o [.m 25 4, .nt 26 25, .m 27 26, .gm 28 27 true 3, .g 29 27
 true (.bin .eql false (.tmp 28) (.const (.int .i64 0))), .gm 30 27 true 29, .gm 31 30 false 0, .gm 32 30 false 3, .g 33 30 false (.indexStr (.tmp 31) (.tmp 32)), .gc 34 30 false 93 33, .gu 35 30 false 34, .g 36 27 true
 (.pick (.tmp 30) (.const (.bool true)) (.tmp 35)), .pf 37 27 36], .k 37 (.q [.o [.f 2], .ret]) .skip]), .o [.m 9 3, .bk 10 .add false 9 1, .m 3 10]]))], .o [.m 38 0, .s 39 (.lenStr (.tmp 38)), .bk 40 .geq false 39 1, .m
 41 40, .gm 42 41 true 0, .g 43 41 true (.lenStr (.tmp 42)), .g 44 41 true (.bin .leq false (.tmp 43) (.const (.int .i64 8))), .pf 45 41 44, .m 2 45], .ret]
def uR_ : LF := ⟨1, 46, c73, [.tmp 2]⟩
theorem xH_ : av_ prog Tryz.f73 uR_ := am_
theorem er_ (s : ByteArray) (hs : s.size ≤ 1048576) (h : List Row) : aa_ prog 73 [.val (.string s)] h (.val (.bool (bQ_ s))) := by
 refine ap_ mixed Tryz.func73 xH_ rfl rfl ?_ h
 have hl := cs_ s
 simp (disch := omega) only [uR_, c73, go_sem]
 refine aB_ (fun n t h => ∃ k : Nat, t 0 = .val (.string s) ∧ t 3 = .val (.int .i64 k) ∧ n = s.size - k ∧ k ≤ s.size ∧ (cQ_ (dj_ s) 0 = cQ_ ((dj_ s).drop k) k)) (s.size) ?_ ?_
 ·exact ⟨0, rfl, rfl, rfl, Nat.zero_le _, rfl⟩
 ·rintro J hJ n t h ⟨k, t0, k3, rfl, hk, hS⟩
  by_cases hlt : k < s.size
  ·skip
   rw [eM_ (dj_ s) k (by omega)] at hS
   simp (disch := omega) only [t0, k3, hlt, go_sem, reduceEqDiff, reduceCtorEq, ↓reduceIte]
   repeat' (first
    | exact ae_ _ _
    | exact ⟨s.size - (k + 1), by omega, hJ _ _ _ ⟨k + 1, by simp [upd, t0], by simp [upd], rfl, by omega, by rw [hS]; first | (simp only [*, Bool.true_and, Bool.false_and, Bool.or_true, Bool.true_or, Bool.or_false, Bool.not_true, Bool.not_false, Bool.and_self, Bool.or_self]; done) | simp [*]⟩⟩
    | (refine ac_ ?_; simp only [bQ_]; rw [hS]; first | (simp only [*, Bool.and_false, Bool.false_and, Bool.not_true, Bool.not_false, Bool.or_self]; done) | (simp [*]; done))
    | (refine ac_ ?_; rw [e7_ _ _ (by omega)] at hS; simp only [bQ_]; rw [hS]; first | (simp only [*, Bool.and_true, Bool.true_and, Bool.and_false, Bool.false_and, Bool.or_true, Bool.true_or, Bool.or_false, Bool.false_or, Bool.not_true, Bool.not_false, decide_true, decide_false, Bool.and_self, Bool.or_self]; done) | (simp [*]; done))
    | simp (disch := omega) only [t0, k3, go_sem, reduceEqDiff, reduceCtorEq, ↓reduceIte]
    | (refine aa_.call (dQ_ _ _) ?_)
    | (refine aa_.q (dQ_ _ _) ?_)
    | (refine aa_.call (d4_ _ _) ?_)
    | (refine aa_.q (d4_ _ _) ?_)
    | ((first | (apply aM_; assumption) | (apply aN_; assumption) | (apply a6_; assumption) | (apply a5_; assumption)); intro hb; try simp only [hb])
    | ((first | (apply ay_; assumption) | (apply ax_; assumption) | (apply aG_; assumption) | (apply aH_; assumption)); intro hb; try simp only [hb])
    | ((first | apply at_ | apply aw_ | apply ai_ | apply ak_) <;> intro hb <;> (try simp only [hb]) <;> (first | have hp := aO_ hb | have hp := aQ_ hb | have hp := aR_ hb | have hp := aP_ hb | skip)))
  ·skip
   simp (disch := omega) only [t0, k3, hlt, go_sem, reduceEqDiff, reduceCtorEq, ↓reduceIte]
   repeat' (first
    | exact ae_ _ _
    | (refine ac_ ?_; simp only [bQ_]; rw [hS]; first | (simp only [*, Bool.true_and, Bool.false_and, decide_true, decide_false]; done) | (simp [*]; done))
    | (refine ac_ ?_; rw [e7_ _ _ (by omega)] at hS; simp only [bQ_]; rw [hS]; first | (simp only [*, Bool.and_true, Bool.true_and, decide_true]; done) | (simp [*]; done))
    | simp (disch := omega) only [t0, go_sem, reduceEqDiff, reduceCtorEq, ↓reduceIte]
    | (refine aa_.call (dQ_ _ _) ?_)
    | (refine aa_.q (dQ_ _ _) ?_)
    | (refine aa_.call (d4_ _ _) ?_)
    | (refine aa_.q (d4_ _ _) ?_)
    | ((first | (apply aM_; assumption) | (apply aN_; assumption) | (apply a6_; assumption) | (apply a5_; assumption)); intro hb; try simp only [hb])
    | ((first | (apply ay_; assumption) | (apply ax_; assumption) | (apply aG_; assumption) | (apply aH_; assumption)); intro hb; try simp only [hb])
    | ((first | apply at_ | apply aw_ | apply ai_ | apply ak_) <;> intro hb <;> (try simp only [hb]) <;> (first | have hp := aO_ hb | have hp := aQ_ hb | have hp := aR_ hb | have hp := aP_ hb | skip)))
theorem pi_ {s : ByteArray} (h3 : 0 < s.size) (h4 : df_ ((dj_ s)[0]'(by rw [cs_]; exact h3)) = false) (h5 : decide (((dj_ s)[0]'(by rw [cs_]; exact h3)) = 37) = false) : bQ_ s = false := by
 have h6 := eM_ (dj_ s) 0 (by rw [cs_]; exact h3)
 rw [drop_zero] at h6
 simp only [bQ_, h6, h4, h5]; simp
theorem nT_ {s : ByteArray} (h1 : decide ((s.size : Int) < 1) = false) (h2 : decide (8 < (s.size : Int)) = false) (h3 : 0 < s.size) (h4 : df_ ((dj_ s)[0]'(by rw [cs_]; exact h3)) = true ∨ ((dj_ s)[0]'(by rw [cs_]; exact h3)) = 37) : bQ_ s = cQ_ ((dj_ s).drop 1) 1 := by
 have h5 := eM_ (dj_ s) 0 (by rw [cs_]; exact h3)
 rw [drop_zero] at h5
 have h6 := of_decide_eq_false h1
 have h7 := of_decide_eq_false h2
 have e1 : decide (1 ≤ (s.size : Int)) = true := by simp; omega
 have e2 : decide ((s.size : Int) ≤ 8) = true := by simp; omega
 simp only [bQ_, e1, e2, h5, Bool.true_and]
 rcases h4 with h4 | h4 <;> simp [h4]
def pM_ : LC :=
 .q [.o [.f 2], .q [.o [.m 4 0, .s 5 (.lenStr (.tmp 4)), .bk 6 .lss false 5 1, .m 7 6, .gm 8 7 false 0, .g 9 7 false (.lenStr (.tmp 8)), .g 10 7 false (.bin .gtr false (.tmp 9) (.const (.int .i64 8))), .pt 11 7 10, .m 12
 11, .gm 13 12 false 0, .g 14 12 false (.indexStr (.tmp 13) (.const (.int .i64 0))), .gc 15 12 false 140 14, .gu 16 12 false 15, .gm 17 12 false 16, .gm 18 17 true 0, .g 19 17 true (.indexStr (.tmp 18) (.const (.int .i64
 0))), .g 20 17 true (.bin .neq false (.tmp 19) (.const (.int .u8 37))), .g 21 12 false (.pick (.tmp 17) (.tmp 20) (.const (.bool false))), .pt 22 12 21], .k 22 (.q [.o [.f 2], .ret]) .skip], .q [.o [.ki 3 1], .block 0
 (.loop (.q [.q [.o [.m 23 3, .m 24 0, .s 25 (.lenStr (.tmp 24)), .bb 26 .lss false 23 25], .k 26 .skip (.exit 0)], .block 1 (.q [.o [.m 29 0, .m 30 3, .s 31 (.indexStr (.tmp 29) (.tmp 30)), .c1 32 140 31, .nt 33 32, .m
 34 33, .gm 35 34 true 0, .gm 36 34 true 3, .g 37 34 true (.indexStr (.tmp 35) (.tmp 36)), .gc 38 34 true 141 37, .gu 39 34 true 38, .pf 40 34 39], .k 40 (.q [.o [.f 2], .ret]) .skip]), .o [.m 27 3, .bk 28 .add false 27
 1, .m 3 28]]))], .o [.t 2], .ret]
def mF_ : LF := ⟨1, 41, pM_, [.tmp 2]⟩
theorem vY_ : av_ prog Tryz.f120 mF_ := am_
theorem ha_ (s : ByteArray) (hs : s.size ≤ 1048576) (h : List Row) : aa_ prog 120 [.val (.string s)] h (.val (.bool (bQ_ s))) := by
 refine ap_ mixed Tryz.func120 vY_ rfl rfl ?_ h
 have hl := cs_ s
 by_cases h0 : (s.size : Int) < 1
 ·simp (disch := omega) only [mF_, pM_, h0, go_sem, reduceEqDiff, reduceCtorEq, ↓reduceIte]
  have h9 : ¬ (1 ≤ (s.size : Int)) := by omega
  exact ac_ (by simp [bQ_, h9])
 by_cases h8 : 8 < (s.size : Int)
 ·simp (disch := omega) only [mF_, pM_, h0, h8, go_sem, reduceEqDiff, reduceCtorEq, ↓reduceIte]
  have h9 : ¬ ((s.size : Int) ≤ 8) := by omega
  exact ac_ (by simp [bQ_, h9])
 have hpos : 0 < s.size := by omega
 have hle : (dj_ s)[0]? = some ((dj_ s)[0]'(by omega)) := getElem?_eq_getElem (by omega)
 simp (disch := omega) only [mF_, pM_, h0, h8, go_sem, reduceEqDiff, reduceCtorEq, Int.reduceLE, ↓reduceIte]
 repeat' (first
  | exact ae_ _ _
  | (refine ac_ ?_; apply Eq.symm; apply pi_ hpos <;> assumption)
  | (
   have hS0 : bQ_ s = cQ_ ((dj_ s).drop 1) 1 := nT_ (by simp; omega) (by simp; omega) hpos (by simp_all)
   refine aB_ (fun n t h => ∃ k : Nat, t 0 = .val (.string s) ∧ t 3 = .val (.int .i64 k) ∧ n = s.size - k ∧ k ≤ s.size ∧ (cQ_ ((dj_ s).drop 1) 1 = cQ_ ((dj_ s).drop k) k ∧ 1 ≤ k)) (s.size - 1) ?_ ?_
   ·exact ⟨1, rfl, rfl, rfl, by omega, ⟨rfl, Nat.le_refl _⟩⟩
   ·rintro J hJ n t h ⟨k, t0, k3, rfl, hk, hS⟩
    by_cases hlt : k < s.size
    ·skip
     obtain ⟨hS, hk1⟩ := hS
     rw [eM_ (dj_ s) k (by omega)] at hS
     have hk0 : decide (k = 0) = false := by simp; omega
     simp only [hk0, Bool.false_and, Bool.or_false, Bool.not_false, Bool.true_and] at hS
     simp (disch := omega) only [t0, k3, hlt, go_sem, reduceEqDiff, reduceCtorEq, ↓reduceIte]
     repeat' (first
      | exact ae_ _ _
      | exact ⟨s.size - (k + 1), by omega, hJ _ _ _ ⟨k + 1, by simp [upd, t0], by simp [upd], rfl, by omega, by refine ⟨?_, by omega⟩; rw [hS]; first | (simp only [*, Bool.true_and, Bool.or_true, Bool.true_or]; done) | simp [*]⟩⟩
      | (refine ac_ ?_; rw [hS0, hS]; first | (simp only [*, Bool.false_and, Bool.or_self]; done) | (simp [*]; done))
      | (refine ac_ ?_; rw [hS0, hS.1, e7_ _ _ (by omega)])
      | simp (disch := omega) only [t0, k3, go_sem, reduceEqDiff, reduceCtorEq, ↓reduceIte]
      | (refine aa_.call (cf_ _ _) ?_)
      | (refine aa_.q (cf_ _ _) ?_)
      | (refine aa_.call (dp_ _ _) ?_)
      | (refine aa_.q (dp_ _ _) ?_)
      | ((first | (apply aM_; assumption) | (apply aN_; assumption) | (apply a6_; assumption) | (apply a5_; assumption)); intro hb; try simp only [hb])
      | ((first | (apply ay_; assumption) | (apply ax_; assumption) | (apply aG_; assumption) | (apply aH_; assumption)); intro hb; try simp only [hb])
      | ((first | apply at_ | apply aw_ | apply ai_ | apply ak_) <;> intro hb <;> (try simp only [hb]) <;> (first | have hp := aO_ hb | have hp := aQ_ hb | have hp := aR_ hb | have hp := aP_ hb | skip)))
    ·skip
     simp (disch := omega) only [t0, k3, hlt, go_sem, reduceEqDiff, reduceCtorEq, ↓reduceIte]
     repeat' (first
      | exact ae_ _ _
      | (refine ac_ ?_; rw [hS0, hS]; first | (simp only [*, Bool.and_true, Bool.true_and, Bool.and_false, Bool.false_and, Bool.or_true, Bool.true_or, Bool.or_false, Bool.false_or, Bool.not_true, Bool.not_false, decide_true, decide_false, Bool.and_self, Bool.or_self]; done) | (simp [*]; done))
      | (refine ac_ ?_; rw [hS0, hS.1, e7_ _ _ (by omega)])
      | simp (disch := omega) only [t0, k3, go_sem, reduceEqDiff, Nat.reduceAdd, reduceLeDiff, reduceCtorEq, Int.reduceLT, Int.reduceLE, Int.reduceNeg, Int.reduceSub, Int.reduceAdd, Int.reduceToNat, ↓reduceIte]
      | (refine aa_.call (cf_ _ _) ?_)
      | (refine aa_.q (cf_ _ _) ?_)
      | (refine aa_.call (dp_ _ _) ?_)
      | (refine aa_.q (dp_ _ _) ?_)
      | ((first | (apply aM_; assumption) | (apply aN_; assumption) | (apply a6_; assumption) | (apply a5_; assumption)); intro hb; try simp only [hb])
      | ((first | (apply ay_; assumption) | (apply ax_; assumption) | (apply aG_; assumption) | (apply aH_; assumption)); intro hb; try simp only [hb])
      | ((first | apply at_ | apply aw_ | apply ai_ | apply ak_) <;> intro hb <;> (try simp only [hb]) <;> (first | have hp := aO_ hb | have hp := aQ_ hb | have hp := aR_ hb | have hp := aP_ hb | skip))))
  | simp (disch := omega) only [go_sem, reduceEqDiff, reduceCtorEq, Int.reduceLE, ↓reduceIte]
  | (refine aa_.call (cf_ _ _) ?_)
  | (refine aa_.q (cf_ _ _) ?_)
  | ((first | (apply aM_; assumption) | (apply aN_; assumption) | (apply a6_; assumption) | (apply a5_; assumption)); intro hb; try simp only [hb])
  | ((first | (apply ay_; assumption) | (apply ax_; assumption) | (apply aG_; assumption) | (apply aH_; assumption)); intro hb; try simp only [hb])
  | ((first | apply at_ | apply aw_ | apply ai_ | apply ak_) <;> intro hb <;> (try simp only [hb]) <;> (first | have hp := aO_ hb | have hp := aQ_ hb | have hp := aR_ hb | have hp := aP_ hb | skip)))
theorem fQ_ {α β : Type} (f : α → β) (xs : List α) (n : Nat) : List.take n (List.map f xs) = List.map f (List.take n xs) := map_take.symm
theorem sA_ (a b : ByteArray) : eqS a b = eqS b a := by simp only [eqS]; by_cases h : a = b <;> simp [h]; exact fun e => h e.symm
theorem lI_ {α : Type} (p : α → α → Bool) (hp : ∀ a b, p a b = p b a) : ∀ xs ys : List α, fv_ p xs ys = fv_ p ys xs
 | [], [] => rfl
 | [], _ :: _ => rfl
 | _ :: _, [] => rfl
 | x :: xs, y :: ys => by simp only [fv_, hp x y, lI_ p hp xs ys]
def st_ : LC :=
 .q [.o [.f 4], .o [.m 5 0, .ll 6 5, .m 7 1, .ll 8 7, .bb 9 .geq false 6 8, .m 10 9, .gm 11 10 true 0, .gm 12 10 true 1, .g 13 10 true (.lenSl (.tmp 12)), .g 14 10 true (.sliceSl 1 (.tmp 11) none (some (.tmp 13))), .gm 15
 10 true 1, .g 16 10 true (.call 131 [.tmp 14, .tmp 15]), .pf 17 10 16, .m 4 17], .ret]
def pY_ : LF := ⟨2, 18, st_, [.tmp 4]⟩
theorem vd_ : av_ prog Tryz.f100 pY_ := am_
theorem eq_ (a b : List ByteArray) (ha : a.length ≤ 1048576) (h : List Row) : aa_ prog 100 [.list 0 1 (a.map aF_), .list 0 1 (b.map aF_)] h (.val (.bool (fi_ b a))) := by
 refine ap_ mixed Tryz.func100 vd_ rfl rfl ?_ h
 by_cases hl : b.length ≤ a.length
 ·have hl' : ((b.length : Int) ≤ (a.length : Int)) := by omega
  simp (disch := omega) only [pY_, st_, hl', hl, bC_, fQ_, go_sem, reduceEqDiff, reduceCtorEq, ↓reduceIte]
  refine aa_.call (hd_ (a.take b.length) b (by rw [length_take]; omega) _) ?_
  simp (disch := omega) only [go_sem, reduceEqDiff, ↓reduceIte]
  exact ac_ (by simp only [fi_, hl, hQ_, decide_true, Bool.true_and]; exact lI_ _ sA_ _ _)
 ·have hl' : ¬ ((b.length : Int) ≤ (a.length : Int)) := by omega
  simp (disch := omega) only [pY_, st_, hl', go_sem, reduceEqDiff, reduceCtorEq, ↓reduceIte]
  exact ac_ (by simp [fi_, hl])
def way (n : ByteArray) (s : List ByteArray) (o : ByteArray) (os : List ByteArray) : Bool := decide (n = o) && (fi_ s os || fi_ os s)
def c85 : LC :=
 .q [.o [.f 2], .o [.m 3 0, .c1 4 120 3, .m 2 4], .ret]
def vP_ : LF := ⟨1, 5, c85, [.tmp 2]⟩
theorem xJ_ : av_ prog Tryz.f85 vP_ := am_
theorem b5_ (s : ByteArray) (hs : s.size ≤ 1048576) (h : List Row) : aa_ prog 85 [.val (.string s)] h (.val (.bool (bQ_ s))) := by
 refine ap_ mixed Tryz.func85 xJ_ rfl rfl ?_ h
 simp (disch := omega) only [vP_, c85, go_sem, reduceCtorEq, ↓reduceIte]
 repeat' (first
  | exact ae_ _ _
  | simp (disch := omega) only [go_sem, ↓reduceIte]
  | (refine aa_.call (ha_ _ hs _) ?_)
  | (refine aa_.q (ha_ _ hs _) ?_)
  | ((first | (apply aM_; assumption) | (apply aN_; assumption) | (apply a6_; assumption) | (apply a5_; assumption)); intro hb; try simp only [hb])
  | ((first | (apply ay_; assumption) | (apply ax_; assumption) | (apply aG_; assumption) | (apply aH_; assumption)); intro hb; try simp only [hb])
  | ((first | apply at_ | apply aw_ | apply ai_ | apply ak_) <;> intro hb <;> (try simp only [hb]) <;> (first | have hp := aO_ hb | have hp := aQ_ hb | have hp := aR_ hb | have hp := aP_ hb | skip)))
def c90 : LC :=
 .q [.o [.f 8], .o [.m 9 0, .m 10 2, .bb 11 .eql false 9 10, .m 12 11, .gm 13 12 true 1, .gm 14 12 true 3, .g 15 12 true (.call 124 [.tmp 13, .tmp 14]), .gm 16 12 true 15, .gm 17 16 false 3, .gm 18 16 false 1, .g 19 16
 false (.call 124 [.tmp 17, .tmp 18]), .g 20 12 true (.pick (.tmp 16) (.const (.bool true)) (.tmp 19)), .pf 21 12 20, .m 8 21], .ret]
def uN_ : LF := ⟨4, 22, c90, [.tmp 8]⟩
theorem xl_ : av_ prog Tryz.f90 uN_ := am_
theorem hA_ (n : ByteArray) (s : List ByteArray) (o : ByteArray) (os : List ByteArray) (hs : s.length ≤ 1048576) (hos : os.length ≤ 1048576) (h : List Row) : aa_ prog 90 [.val (.string n), .list 0 1 (s.map aF_), .val (.string o), .list 0 1 (os.map aF_)] h (.val (.bool (way n s o os))) := by
 refine ap_ mixed Tryz.func90 xl_ rfl rfl ?_ h
 simp (disch := omega) only [uN_, c90, go_sem, reduceEqDiff, reduceCtorEq, ↓reduceIte]
 repeat' (first
  | exact ae_ _ _
  | (refine ac_ ?_; simp only [way, *, Bool.true_and, Bool.false_and, Bool.true_or, Bool.false_or, Bool.and_self]; done)
  | (refine ac_ ?_; first | rfl | (simp only [way, *, Bool.and_true, Bool.true_and, Bool.and_false, Bool.false_and, Bool.or_true, Bool.true_or, Bool.or_false, Bool.false_or, Bool.not_true, Bool.not_false, decide_true, decide_false, Bool.and_self, Bool.or_self]; done) | (simp [way, *]; done))
  | simp (disch := omega) only [go_sem, reduceEqDiff, ↓reduceIte]
  | (refine aa_.call (do_ _ _ hs _) ?_)
  | (refine aa_.q (do_ _ _ hs _) ?_)
  | (refine aa_.call (do_ _ _ hos _) ?_)
  | (refine aa_.q (do_ _ _ hos _) ?_)
  | ((first | (apply aM_; assumption) | (apply aN_; assumption) | (apply a6_; assumption) | (apply a5_; assumption)); intro hb; try simp only [hb])
  | ((first | (apply ay_; assumption) | (apply ax_; assumption) | (apply aG_; assumption) | (apply aH_; assumption)); intro hb; try simp only [hb])
  | ((first | apply at_ | apply aw_ | apply ai_ | apply ak_) <;> intro hb <;> (try simp only [hb]) <;> (first | have hp := aO_ hb | have hp := aQ_ hb | have hp := aR_ hb | have hp := aP_ hb | skip)))
def c78 : LC :=
 .q [.o [.f 8], .o [.m 9 0, .m 10 2, .bb 11 .eql false 9 10, .m 12 11, .gm 13 12 true 1, .gm 14 12 true 3, .g 15 12 true (.call 100 [.tmp 13, .tmp 14]), .gm 16 12 true 15, .gm 17 16 false 3, .gm 18 16 false 1, .g 19 16
 false (.call 100 [.tmp 17, .tmp 18]), .g 20 12 true (.pick (.tmp 16) (.const (.bool true)) (.tmp 19)), .pf 21 12 20, .m 8 21], .ret]
def wb_ : LF := ⟨4, 22, c78, [.tmp 8]⟩
theorem xI_ : av_ prog Tryz.f78 wb_ := am_
theorem gB_ (n : ByteArray) (s : List ByteArray) (o : ByteArray) (os : List ByteArray) (hs : s.length ≤ 1048576) (hos : os.length ≤ 1048576) (h : List Row) : aa_ prog 78 [.val (.string n), .list 0 1 (s.map aF_), .val (.string o), .list 0 1 (os.map aF_)] h (.val (.bool (way n s o os))) := by
 refine ap_ mixed Tryz.func78 xI_ rfl rfl ?_ h
 simp (disch := omega) only [wb_, c78, go_sem, reduceEqDiff, reduceCtorEq, ↓reduceIte]
 repeat' (first
  | exact ae_ _ _
  | (refine ac_ ?_; simp only [way, *, Bool.true_and, Bool.false_and, Bool.true_or, Bool.false_or, Bool.and_self, Bool.or_comm]; done)
  | (refine ac_ ?_; first | rfl | (simp only [way, *, Bool.and_true, Bool.true_and, Bool.and_false, Bool.false_and, Bool.or_true, Bool.true_or, Bool.or_false, Bool.false_or, Bool.not_true, Bool.not_false, decide_true, decide_false, Bool.and_self, Bool.or_self]; done) | (simp [way, *]; done))
  | simp (disch := omega) only [go_sem, reduceEqDiff, ↓reduceIte]
  | (refine aa_.call (eq_ _ _ hs _) ?_)
  | (refine aa_.q (eq_ _ _ hs _) ?_)
  | (refine aa_.call (eq_ _ _ hos _) ?_)
  | (refine aa_.q (eq_ _ _ hos _) ?_)
  | ((first | (apply aM_; assumption) | (apply aN_; assumption) | (apply a6_; assumption) | (apply a5_; assumption)); intro hb; try simp only [hb])
  | ((first | (apply ay_; assumption) | (apply ax_; assumption) | (apply aG_; assumption) | (apply aH_; assumption)); intro hb; try simp only [hb])
  | ((first | apply at_ | apply aw_ | apply ai_ | apply ak_) <;> intro hb <;> (try simp only [hb]) <;> (first | have hp := aO_ hb | have hp := aQ_ hb | have hp := aR_ hb | have hp := aP_ hb | skip)))
end Go.Proofs.YtddmifalinefnaaGreatDoor
