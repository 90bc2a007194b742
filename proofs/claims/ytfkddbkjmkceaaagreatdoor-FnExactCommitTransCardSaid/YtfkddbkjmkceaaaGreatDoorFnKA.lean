/-
 Contracts of functions. Conditions: as each theorem says.
-/
import Derived.Test.YtfkddbkjmkceaaaGreatDoorFnO
import Derived.Test.YtfkddbkjmkceaaaGreatDoorAwC
import Derived.Test.YtfkddbkjmkceaaaGreatDoorPlNum
import Derived.Test.YtfkddbkjmkceaaaGreatDoorPlKey
namespace Go.Proofs.YtfkddbkjmkceaaaGreatDoor
open Tryz (prog)
open Nat (reduceEqDiff reduceLeDiff)
open List
open Go.AW
set_option linter.unusedVariables false
set_option linter.unusedSimpArgs false
set_option maxRecDepth 4000
def vk_ : LC :=
 .q [.o [.f 4], .q [.o [.m 6 0, .ll 7 6, .m 8 1, .ll 9 8, .bb 10 .neq false 7 9], .k 10 (.q [.o [.f 4], .ret]) .skip], .q [.o [.m 11 0, .ll 12 11, .ki 13 0], .block 0 (.loop (.q [.o [.bb 14 .lss false 13 12], .k 14 .skip
 (.exit 0), .block 1 (.q [.o [.m 15 13, .m 5 15], .dops [.m 16 0, .m 17 5, .ia 18 1 16 17, .ln 19 18, .m 20 1, .m 21 5, .ia 22 1 20 21, .ln 23 22, .bb 24 .neq false 19 23], .k 24 (.q [.o [.f 4], .ret]) .skip]), .o [.bk 25
 .add false 13 1, .m 13 25]]))], .o [.t 4], .ret]
def sB_ : LF := ⟨2, 26, vk_, [.tmp 4]⟩
theorem B7_ : au_ prog Tryz.f138 sB_ := ah_
def vl_ : LC :=
 .q [.o [.f 4], .q [.o [.m 6 0, .ll 7 6, .m 8 1, .ll 9 8, .bb 10 .gtr false 7 9], .k 10 (.q [.o [.f 4], .ret]) .skip], .q [.o [.ki 5 0], .block 0 (.loop (.q [.q [.o [.m 11 5, .m 12 0, .ll 13 12, .bb 14 .lss false 11 13],
 .k 14 .skip (.exit 0)], .block 1 (.q [.dops [.m 17 0, .m 18 5, .ia 19 1 17 18, .ln 20 19, .m 21 1, .m 22 5, .ia 23 1 21 22, .ln 24 23, .bb 25 .neq false 20 24], .k 25 (.q [.o [.f 4], .ret]) .skip]), .o [.m 15 5, .bk 16
 .add false 15 1, .m 5 16]]))], .o [.t 4], .ret]
def r4_ : LF := ⟨2, 26, vl_, [.tmp 4]⟩
theorem y0_ : au_ prog Tryz.f113 r4_ := ah_
abbrev bs (s : ByteArray) : List UInt8 := s.data.toList
abbrev bss (xs : List ByteArray) : List (List UInt8) := xs.map fun s => s.data.toList
theorem ez_ (s : ByteArray) : txt s.data.toList = s := (pU_ s).symm
theorem fq_ (s : ByteArray) : s.data.toList.length = s.size := by rw [Array.length_toList]; rfl
theorem mR_ (a b : ByteArray) : (a.data.toList = b.data.toList) = (a = b) := by
 apply propext; constructor
 ·intro h; rw [← ez_ a, ← ez_ b, h]
 ·intro h; rw [h]
theorem rR_ (a b : List ByteArray) : bss a = bss b ↔ a = b := by
 constructor
 ·intro h
  have : (bss a).map txt = (bss b).map txt := by rw [h]
  simpa [bss, map_map, Function.comp_def, ez_] using this
 ·intro h; rw [h]
theorem dI_ (s : ByteArray) (hs : s.size ≤ 1048576) (h : List Row) : aa_ prog 179 [.val (.string s)] h (.val (.bool (b7_ s.data.toList))) := by
 have := mD_ s.data.toList (by rw [fq_]; omega) h
 rwa [ez_] at this
theorem eE_ (s : ByteArray) (hs : s.size ≤ 1048576) (h : List Row) : aa_ prog 181 [.val (.string s)] h (.val (.int .i64 (bX_ s.data.toList))) := by
 have := ky_ s.data.toList (by rw [fq_]; omega) h
 rwa [ez_] at this
def eqS (s t : ByteArray) : Bool := decide (s = t)
def br_ (xs ys : List ByteArray) : Bool := e2_ eqS xs ys
theorem dh_ (xs ys : List ByteArray) (hx : xs.length ≤ 1048576) (h : List Row) : aa_ prog 138 [.list 0 1 (xs.map am_), .list 0 1 (ys.map am_)] h (.val (.bool (br_ xs ys))) := by
 refine aj_ mixed Tryz.func138 B7_ rfl rfl ?_ h
 by_cases hl : xs.length = ys.length
 ·have hl' : ((xs.length : Int) = (ys.length : Int)) = True := by simp [hl]
  simp (disch := omega) only [sB_, vk_, hl', ag_, go_sem, reduceEqDiff, reduceCtorEq, ↓reduceIte]
  refine aP_ (fun n t h => ∃ k : Nat, t 0 = .list 0 1 (xs.map am_) ∧ t 1 = .list 0 1 (ys.map am_) ∧ t 12 = .val (.int .i64 xs.length) ∧ t 13 = .val (.int .i64 k) ∧ h = [] ∧ n = xs.length - k ∧ k ≤ xs.length ∧ br_ xs ys = e2_ eqS (xs.drop k) (ys.drop k)) xs.length ?_ ?_
  ·exact ⟨0, rfl, rfl, rfl, rfl, rfl, rfl, Nat.zero_le _, rfl⟩
  ·rintro J hJ n t h ⟨k, t0, t1, t12, t13, rfl, rfl, hk, hS⟩
   by_cases hlt : k < xs.length
   ·have hlt2 : k < ys.length := by omega
    rw [k6_ eqS xs ys k hlt hlt2] at hS
    by_cases e : xs[k] = ys[k]
    ·simp (disch := omega) only [t0, t1, t12, t13, hlt, e, ag_, go_sem, reduceEqDiff, reduceCtorEq, ↓reduceIte, aq_]
     exact ⟨xs.length - (k + 1), by omega, hJ _ _ _ ⟨k + 1, by simp [upd, t0], by simp [upd, t1], by simp [upd, t12], by simp [upd], rfl, rfl, by omega, by rw [hS]; simp [eqS, e]⟩⟩
    ·simp (disch := omega) only [t0, t1, t12, t13, hlt, e, ag_, go_sem, reduceEqDiff, reduceCtorEq, ↓reduceIte, aq_]
     exact ae_ (by rw [hS]; simp [eqS, e])
   ·simp (disch := omega) only [t0, t1, t12, t13, hlt, ag_, go_sem, reduceEqDiff, reduceCtorEq, ↓reduceIte, aq_]
    exact ae_ (by rw [hS, mr_ _ _ _ _ (by omega) (by omega)])
 ·have hl' : ((xs.length : Int) = (ys.length : Int)) = False := by simp; omega
  simp (disch := omega) only [sB_, vk_, hl', ag_, go_sem, reduceEqDiff, reduceCtorEq, ↓reduceIte]
  exact ae_ (by rw [br_, hh_ _ _ _ hl])
def cX_ (xs ys : List ByteArray) : Bool := decide (xs.length ≤ ys.length) && e2_ eqS xs (ys.take xs.length)
theorem lO_ (xs ys : List ByteArray) (hx : xs.length ≤ 1048576) (h : List Row) : aa_ prog 113 [.list 0 1 (xs.map am_), .list 0 1 (ys.map am_)] h (.val (.bool (cX_ xs ys))) := by
 refine aj_ mixed Tryz.func113 y0_ rfl rfl ?_ h
 by_cases hl : ys.length < xs.length
 ·simp (disch := omega) only [r4_, vl_, hl, ag_, go_sem, reduceEqDiff, reduceCtorEq, ↓reduceIte]
  exact ae_ (by simp [cX_]; omega)
 ·simp (disch := omega) only [r4_, vl_, hl, ag_, go_sem, reduceEqDiff, reduceCtorEq, ↓reduceIte]
  have hT : (ys.take xs.length).length = xs.length := by simp; omega
  refine aP_ (fun n t h => ∃ k : Nat, t 0 = .list 0 1 (xs.map am_) ∧ t 1 = .list 0 1 (ys.map am_) ∧ t 5 = .val (.int .i64 k) ∧ h = [] ∧ n = xs.length - k ∧ k ≤ xs.length ∧ cX_ xs ys = e2_ eqS (xs.drop k) ((ys.take xs.length).drop k)) xs.length ?_ ?_
  ·exact ⟨0, rfl, rfl, rfl, rfl, rfl, Nat.zero_le _, by simp [cX_]; omega⟩
  ·rintro J hJ n t h ⟨k, t0, t1, t5, rfl, rfl, hk, hS⟩
   by_cases hlt : k < xs.length
   ·have hlt2 : k < ys.length := by omega
    rw [k6_ eqS xs _ k hlt (by omega)] at hS
    have hg : (ys.take xs.length)[k]'(by omega) = ys[k] := by simp
    rw [hg] at hS
    by_cases e : xs[k] = ys[k]
    ·simp (disch := omega) only [t0, t1, t5, hlt, e, ag_, go_sem, reduceEqDiff, reduceCtorEq, ↓reduceIte, aq_]
     exact ⟨xs.length - (k + 1), by omega, hJ _ _ _ ⟨k + 1, by simp [upd, t0], by simp [upd, t1], by simp [upd], rfl, rfl, by omega, by rw [hS]; simp [eqS, e]⟩⟩
    ·simp (disch := omega) only [t0, t1, t5, hlt, e, ag_, go_sem, reduceEqDiff, reduceCtorEq, ↓reduceIte, aq_]
     exact ae_ (by rw [hS]; simp [eqS, e])
   ·simp (disch := omega) only [t0, t1, t5, hlt, ag_, go_sem, reduceEqDiff, reduceCtorEq, ↓reduceIte, aq_]
    exact ae_ (by rw [hS, mr_ _ _ _ _ (by omega) (by omega)])
theorem ru_ (xs ys : List ByteArray) (h : xs.length = ys.length) : cX_ xs ys = br_ xs ys := by
 simp [cX_, br_, h, take_of_length_le]
def ed_ (b : Int) : Bool := decide (97 ≤ b) && decide (b ≤ 122) || decide (65 ≤ b) && decide (b ≤ 90)
def gd_ (b : Int) : Bool := decide (48 ≤ b) && decide (b ≤ 57)
def b0_ (s : ByteArray) : Bool := decide (1 ≤ (s.size : Int)) && decide ((s.size : Int) ≤ 24)
def CA_ : LC :=
 .q [.o [.f 2], .o [.m 3 0, .s 4 (.bin .leq false (.const (.int .u8 97)) (.tmp 3)), .m 5 4, .gm 6 5 true 0, .g 7 5 true (.bin .leq false (.tmp 6) (.const (.int .u8 122))), .pf 8 5 7, .m 9 8, .gm 10 9 false 0, .g 11 9
 false (.bin .leq false (.const (.int .u8 65)) (.tmp 10)), .gm 12 9 false 11, .gm 13 12 true 0, .g 14 12 true (.bin .leq false (.tmp 13) (.const (.int .u8 90))), .g 15 9 false (.pick (.tmp 12) (.tmp 14) (.const (.bool
 false))), .pt 16 9 15, .m 2 16], .ret]
def wx_ : LF := ⟨1, 17, CA_, [.tmp 2]⟩
theorem Ak_ : au_ prog Tryz.f127 wx_ := ah_
theorem eO_ (b : Int)  (h : List Row) : aa_ prog 127 [.val (.int .u8 b)] h (.val (.bool (ed_ b))) := by
 refine aj_ mixed Tryz.func127 Ak_ rfl rfl ?_ h
 simp (disch := omega) only [wx_, CA_, go_sem, reduceCtorEq, ↓reduceIte]
 repeat' (first
  | exact af_ _ _
  | (refine ae_ ?_; first | rfl | (simp only [ed_, *, Bool.true_and, Bool.and_false, Bool.false_and, Bool.true_or, Bool.false_or, decide_true, decide_false, Bool.and_self, Bool.or_self]; done) | (simp [ed_, *]; done))
  | simp (disch := omega) only [go_sem, reduceEqDiff, reduceCtorEq, ↓reduceIte]
  | ((first | (apply a1_; assumption) | (apply a0_; assumption) | (apply be_; assumption) | (apply bd_; assumption)); intro hb; try simp only [hb])
  | ((first | (apply aM_; assumption) | (apply aN_; assumption) | (apply aX_; assumption) | (apply aY_; assumption)); intro hb; try simp only [hb])
  | ((first | apply aG_ | apply aJ_ | apply ao_ | apply ar_) <;> intro hb <;> (try simp only [hb]) <;> (first | have hp := a8_ hb | have hp := a6_ hb | have hp := a7_ hb | have hp := a5_ hb | skip)))
def z4_ : LC :=
 .q [.o [.f 2], .o [.m 3 0, .s 4 (.bin .geq false (.tmp 3) (.const (.int .u8 97))), .m 5 4, .gm 6 5 true 0, .g 7 5 true (.bin .leq false (.tmp 6) (.const (.int .u8 122))), .pf 8 5 7, .m 9 8, .gm 10 9 false 0, .g 11 9
 false (.bin .geq false (.tmp 10) (.const (.int .u8 65))), .gm 12 9 false 11, .gm 13 12 true 0, .g 14 12 true (.bin .leq false (.tmp 13) (.const (.int .u8 90))), .g 15 9 false (.pick (.tmp 12) (.tmp 14) (.const (.bool
 false))), .pt 16 9 15, .m 2 16], .ret]
def wY_ : LF := ⟨1, 17, z4_, [.tmp 2]⟩
theorem zp_ : au_ prog Tryz.f173 wY_ := ah_
theorem c0_ (b : Int)  (h : List Row) : aa_ prog 173 [.val (.int .u8 b)] h (.val (.bool (ed_ b))) := by
 refine aj_ mixed Tryz.func173 zp_ rfl rfl ?_ h
 simp (disch := omega) only [wY_, z4_, go_sem, reduceCtorEq, ↓reduceIte]
 repeat' (first
  | exact af_ _ _
  | (refine ae_ ?_; first | rfl | (simp only [ed_, *, Bool.true_and, Bool.and_false, Bool.false_and, Bool.true_or, Bool.false_or, decide_true, decide_false, Bool.and_self, Bool.or_self]; done) | (simp [ed_, *]; done))
  | simp (disch := omega) only [go_sem, reduceEqDiff, reduceCtorEq, ↓reduceIte]
  | ((first | (apply a1_; assumption) | (apply a0_; assumption) | (apply be_; assumption) | (apply bd_; assumption)); intro hb; try simp only [hb])
  | ((first | (apply aM_; assumption) | (apply aN_; assumption) | (apply aX_; assumption) | (apply aY_; assumption)); intro hb; try simp only [hb])
  | ((first | apply aG_ | apply aJ_ | apply ao_ | apply ar_) <;> intro hb <;> (try simp only [hb]) <;> (first | have hp := a8_ hb | have hp := a6_ hb | have hp := a7_ hb | have hp := a5_ hb | skip)))
def z1_ : LC :=
 .q [.o [.f 2], .o [.m 3 0, .s 4 (.bin .leq false (.const (.int .u8 48)) (.tmp 3)), .m 5 4, .gm 6 5 true 0, .g 7 5 true (.bin .leq false (.tmp 6) (.const (.int .u8 57))), .pf 8 5 7, .m 2 8], .ret]
def wT_ : LF := ⟨1, 9, z1_, [.tmp 2]⟩
theorem Ap_ : au_ prog Tryz.f128 wT_ := ah_
theorem e4_ (b : Int)  (h : List Row) : aa_ prog 128 [.val (.int .u8 b)] h (.val (.bool (gd_ b))) := by
 refine aj_ mixed Tryz.func128 Ap_ rfl rfl ?_ h
 simp (disch := omega) only [wT_, z1_, go_sem, reduceCtorEq, ↓reduceIte]
 repeat' (first
  | exact af_ _ _
  | (refine ae_ ?_; first | rfl | (simp only [gd_, *, Bool.true_and, Bool.false_and, decide_true, decide_false]; done) | (simp [gd_, *]; done))
  | simp (disch := omega) only [go_sem, reduceEqDiff, reduceCtorEq, ↓reduceIte]
  | ((first | (apply a1_; assumption) | (apply a0_; assumption) | (apply be_; assumption) | (apply bd_; assumption)); intro hb; try simp only [hb])
  | ((first | (apply aM_; assumption) | (apply aN_; assumption) | (apply aX_; assumption) | (apply aY_; assumption)); intro hb; try simp only [hb])
  | ((first | apply aG_ | apply aJ_ | apply ao_ | apply ar_) <;> intro hb <;> (try simp only [hb]) <;> (first | have hp := a8_ hb | have hp := a6_ hb | have hp := a7_ hb | have hp := a5_ hb | skip)))
theorem em_ (b : Int)  (h : List Row) : aa_ prog 174 [.val (.int .u8 b)] h (.val (.bool (gd_ b))) := by
 refine aj_ mixed Tryz.func174 uA_ rfl rfl ?_ h
 simp (disch := omega) only [sR_, wu_, go_sem, reduceCtorEq, ↓reduceIte]
 repeat' (first
  | exact af_ _ _
  | (refine ae_ ?_; first | rfl | (simp only [gd_, *, Bool.true_and, Bool.false_and, decide_true, decide_false]; done) | (simp [gd_, *]; done))
  | simp (disch := omega) only [go_sem, reduceEqDiff, reduceCtorEq, ↓reduceIte]
  | ((first | (apply a1_; assumption) | (apply a0_; assumption) | (apply be_; assumption) | (apply bd_; assumption)); intro hb; try simp only [hb])
  | ((first | (apply aM_; assumption) | (apply aN_; assumption) | (apply aX_; assumption) | (apply aY_; assumption)); intro hb; try simp only [hb])
  | ((first | apply aG_ | apply aJ_ | apply ao_ | apply ar_) <;> intro hb <;> (try simp only [hb]) <;> (first | have hp := a8_ hb | have hp := a6_ hb | have hp := a7_ hb | have hp := a5_ hb | skip)))
def Bk_ : LC :=
 .q [.o [.f 2], .o [.m 3 0, .s 4 (.lenStr (.tmp 3)), .bk 5 .geq false 4 1, .m 6 5, .gm 7 6 true 0, .g 8 6 true (.lenStr (.tmp 7)), .g 9 6 true (.bin .leq false (.tmp 8) (.const (.int .i64 24))), .pf 10 6 9, .m 2 10],
 .ret]
def xV_ : LF := ⟨1, 11, Bk_, [.tmp 2]⟩
theorem z7_ : au_ prog Tryz.f131 xV_ := ah_
theorem fZ_ (s : ByteArray)  (h : List Row) : aa_ prog 131 [.val (.string s)] h (.val (.bool (b0_ s))) := by
 refine aj_ mixed Tryz.func131 z7_ rfl rfl ?_ h
 simp (disch := omega) only [xV_, Bk_, go_sem, reduceCtorEq, ↓reduceIte]
 repeat' (first
  | exact af_ _ _
  | (refine ae_ ?_; first | rfl | (simp only [b0_, *, Bool.true_and, Bool.false_and, decide_true, decide_false]; done) | (simp [b0_, *]; done))
  | simp (disch := omega) only [go_sem, reduceEqDiff, reduceCtorEq, ↓reduceIte]
  | ((first | (apply a1_; assumption) | (apply a0_; assumption) | (apply be_; assumption) | (apply bd_; assumption)); intro hb; try simp only [hb])
  | ((first | (apply aM_; assumption) | (apply aN_; assumption) | (apply aX_; assumption) | (apply aY_; assumption)); intro hb; try simp only [hb])
  | ((first | apply aG_ | apply aJ_ | apply ao_ | apply ar_) <;> intro hb <;> (try simp only [hb]) <;> (first | have hp := a8_ hb | have hp := a6_ hb | have hp := a7_ hb | have hp := a5_ hb | skip)))
def AO_ : LC :=
 .q [.o [.f 2], .o [.m 3 0, .s 4 (.lenStr (.tmp 3)), .bk 5 .geq false 4 1, .m 6 5, .gm 7 6 true 0, .g 8 6 true (.lenStr (.tmp 7)), .g 9 6 true (.bin .leq false (.tmp 8) (.const (.int .i64 24))), .pf 10 6 9, .m 2 10],
 .ret]
def xQ_ : LF := ⟨1, 11, AO_, [.tmp 2]⟩
theorem Av_ : au_ prog Tryz.f108 xQ_ := ah_
theorem dF_ (s : ByteArray)  (h : List Row) : aa_ prog 108 [.val (.string s)] h (.val (.bool (b0_ s))) := by
 refine aj_ mixed Tryz.func108 Av_ rfl rfl ?_ h
 simp (disch := omega) only [xQ_, AO_, go_sem, reduceCtorEq, ↓reduceIte]
 repeat' (first
  | exact af_ _ _
  | (refine ae_ ?_; first | rfl | (simp only [b0_, *, Bool.true_and, Bool.false_and, decide_true, decide_false]; done) | (simp [b0_, *]; done))
  | simp (disch := omega) only [go_sem, reduceEqDiff, reduceCtorEq, ↓reduceIte]
  | ((first | (apply a1_; assumption) | (apply a0_; assumption) | (apply be_; assumption) | (apply bd_; assumption)); intro hb; try simp only [hb])
  | ((first | (apply aM_; assumption) | (apply aN_; assumption) | (apply aX_; assumption) | (apply aY_; assumption)); intro hb; try simp only [hb])
  | ((first | apply aG_ | apply aJ_ | apply ao_ | apply ar_) <;> intro hb <;> (try simp only [hb]) <;> (first | have hp := a8_ hb | have hp := a6_ hb | have hp := a7_ hb | have hp := a5_ hb | skip)))
def c74 : LC :=
 .q [.o [.f 2], .o [.m 3 0, .c1 4 108 3, .m 2 4], .ret]
def B9_ : LF := ⟨1, 5, c74, [.tmp 2]⟩
theorem DU_ : au_ prog Tryz.f74 B9_ := ah_
theorem dZ_ (s : ByteArray)  (h : List Row) : aa_ prog 74 [.val (.string s)] h (.val (.bool (b0_ s))) := by
 refine aj_ mixed Tryz.func74 DU_ rfl rfl ?_ h
 simp (disch := omega) only [B9_, c74, go_sem, reduceCtorEq, ↓reduceIte]
 repeat' (first
  | exact af_ _ _
  | (refine ae_ ?_; first | rfl | (simp only [b0_, *, Bool.and_true, Bool.true_and, Bool.and_false, Bool.false_and, Bool.or_true, Bool.true_or, Bool.or_false, Bool.false_or, Bool.not_true, Bool.not_false, decide_true, decide_false, Bool.and_self, Bool.or_self]; done) | (simp [b0_, *]; done))
  | simp (disch := omega) only [go_sem, ↓reduceIte]
  | (refine aa_.call (dF_ _ _) ?_)
  | (refine aa_.q (dF_ _ _) ?_)
  | ((first | (apply aM_; assumption) | (apply aN_; assumption) | (apply aX_; assumption) | (apply aY_; assumption)); intro hb; try simp only [hb])
  | ((first | apply ao_ | apply ar_) <;> intro hb <;> (try simp only [hb]) <;> (first | have hp := a8_ hb | have hp := a6_ hb | have hp := a7_ hb | have hp := a5_ hb | skip)))
def AY_ : LC :=
 .q [.o [.ki 4 0], .q [.o [.m 6 0, .ll 7 6, .ki 8 0], .block 0 (.loop (.q [.o [.bb 9 .lss false 8 7], .k 9 .skip (.exit 0), .block 1 (.q [.o [.m 10 8, .m 5 10], .o [.m 11 1, .m 12 0, .m 13 5, .ia 14 1 12 13, .ln 15 14, .s
 16 (.callv (.tmp 11) [.tmp 15])], .k 16 (.q [.o [.m 17 5, .m 4 17], .ret]) .skip]), .o [.bk 18 .add false 8 1, .m 8 18]]))], .o [.s 4 (.mov (.const (.int .i64 (-1))))], .ret]
def xi_ : LF := ⟨2, 19, AY_, [.tmp 4]⟩
theorem CR_ : au_ prog Tryz.f162 xi_ := ah_
theorem hG_ (xs : List ByteArray) (p : ByteArray → Bool) (g : Nat) (hx : xs.length ≤ 1048576) (hc : cC_ prog g = true) (hp : ∀ x ∈ xs, ∀ h, aa_ prog g [.val (.string x)] h (.val (.bool (p x)))) (h : List Row) :
 aa_ prog 162 [.list 0 1 (xs.map am_), .fn g [] []] h (.val (.int .i64 (cp_ p xs 0))) := by
 refine aj_ mixed Tryz.func162 CR_ rfl rfl ?_ h
 simp (disch := omega) only [xi_, AY_, go_sem, reduceCtorEq, Int.reduceNeg, ↓reduceIte]
 refine aP_ (fun n t h => ∃ k : Nat, t 0 = .list 0 1 (xs.map am_) ∧ t 1 = .fn g [] [] ∧ t 6 = .list 0 1 (xs.map am_) ∧ t 7 = .val (.int .i64 xs.length) ∧ t 8 = .val (.int .i64 k) ∧ n = xs.length - k ∧ k ≤ xs.length ∧ (cp_ p xs 0 = cp_ p (xs.drop k) k)) (xs.length) ?_ ?_
 ·exact ⟨0, rfl, rfl, rfl, rfl, rfl, rfl, Nat.zero_le _, rfl⟩
 ·rintro J hJ n t h ⟨k, t0, t1, t6, t7, k8, rfl, hk, hS⟩
  by_cases hlt : k < xs.length
  ·skip
   rw [im_ p xs k hlt] at hS
   simp (disch := omega) only [t0, t1, t7, k8, hlt, hc, am_, go_sem, reduceEqDiff, reduceCtorEq, Int.reduceNeg, ↓reduceIte]
   repeat' (first
    | exact af_ _ _
    | exact ⟨xs.length - (k + 1), by omega, hJ _ _ _ ⟨k + 1, by simp [upd, t0], by simp [upd, t1], by simp [upd, t6], by simp [upd, t7], by simp [upd], rfl, by omega, by rw [hS]; simp [*]⟩⟩
    | (refine aF_ ?_; rw [hS]; simp [*]; done)
    | (refine aF_ ?_; rw [hS, fO_ _ _ _ (by omega)])
    | simp (disch := omega) only [k8, go_sem, reduceEqDiff, Int.reduceNeg, ↓reduceIte]
    | (refine aa_.call (hp xs[k] (getElem_mem hlt) _) ?_)
    | (refine aa_.q (hp xs[k] (getElem_mem hlt) _) ?_)
    | ((first | (apply aM_; assumption) | (apply aN_; assumption) | (apply aX_; assumption) | (apply aY_; assumption)); intro hb; try simp only [hb])
    | ((first | apply ao_ | apply ar_) <;> intro hb <;> (try simp only [hb]) <;> (first | have hp := a8_ hb | have hp := a6_ hb | have hp := a7_ hb | have hp := a5_ hb | skip)))
  ·skip
   simp (disch := omega) only [t7, k8, hlt, go_sem, Int.reduceNeg, ↓reduceIte]
   repeat' (first
    | exact af_ _ _
    | (refine aF_ ?_; rw [hS]; simp [*]; done)
    | (refine aF_ ?_; rw [hS, fO_ _ _ _ (by omega)])
    | simp (disch := omega) only [t0, t1, t6, t7, k8, go_sem, reduceEqDiff, Nat.reduceAdd, reduceLeDiff, reduceCtorEq, Int.reduceLT, Int.reduceLE, Int.reduceNeg, Int.reduceSub, Int.reduceAdd, Int.reduceToNat, ↓reduceIte]
    | (refine aa_.call (hp xs[k] (getElem_mem hlt) _) ?_)
    | (refine aa_.q (hp xs[k] (getElem_mem hlt) _) ?_)
    | ((first | (apply aM_; assumption) | (apply aN_; assumption) | (apply aX_; assumption) | (apply aY_; assumption)); intro hb; try simp only [hb])
    | ((first | apply ao_ | apply ar_) <;> intro hb <;> (try simp only [hb]) <;> (first | have hp := a8_ hb | have hp := a6_ hb | have hp := a7_ hb | have hp := a5_ hb | skip)))
def B1_ : LC :=
 .q [.o [.f 4], .o [.m 5 0, .m 6 1, .c2 7 162 5 6, .bk 8 .geq false 7 0, .m 4 8], .ret]
def wW_ : LF := ⟨2, 9, B1_, [.tmp 4]⟩
theorem Cz_ : au_ prog Tryz.f133 wW_ := ah_
theorem cw_ (xs : List ByteArray) (p : ByteArray → Bool) (g : Nat) (hx : xs.length ≤ 1048576) (hc : cC_ prog g = true) (hp : ∀ x ∈ xs, ∀ h, aa_ prog g [.val (.string x)] h (.val (.bool (p x)))) (h : List Row) :
 aa_ prog 133 [.list 0 1 (xs.map am_), .fn g [] []] h (.val (.bool (xs.any p))) := by
 refine aj_ mixed Tryz.func133 Cz_ rfl rfl ?_ h
 simp (disch := omega) only [wW_, B1_, go_sem, reduceEqDiff, reduceCtorEq, ↓reduceIte]
 refine aa_.call (hG_ xs p g hx hc hp _) ?_
 simp (disch := omega) only [go_sem, ↓reduceIte]
 exact ae_ (l0_ p xs)
def bm_ (xs : List ByteArray) : Bool := decide ((xs.length : Int) ≤ 4) && xs.all b0_
def AB_ : LC :=
 .q [.o [.f 2], .o [.m 3 0, .c1 4 131 3, .nt 5 4, .m 2 5], .ret]
def wZ_ : LF := ⟨1, 6, AB_, [.tmp 2]⟩
theorem AE_ : au_ prog Tryz.f134 wZ_ := ah_
theorem hN_ (s : ByteArray)  (h : List Row) : aa_ prog 134 [.val (.string s)] h (.val (.bool (!b0_ s))) := by
 refine aj_ mixed Tryz.func134 AE_ rfl rfl ?_ h
 simp (disch := omega) only [wZ_, AB_, go_sem, reduceCtorEq, ↓reduceIte]
 repeat' (first
  | exact af_ _ _
  | simp (disch := omega) only [go_sem, ↓reduceIte]
  | (refine aa_.call (fZ_ _ _) ?_)
  | (refine aa_.q (fZ_ _ _) ?_)
  | ((first | (apply aM_; assumption) | (apply aN_; assumption) | (apply aX_; assumption) | (apply aY_; assumption)); intro hb; try simp only [hb])
  | ((first | apply ao_ | apply ar_) <;> intro hb <;> (try simp only [hb]) <;> (first | have hp := a8_ hb | have hp := a6_ hb | have hp := a7_ hb | have hp := a5_ hb | skip)))
theorem rN_ {α : Type} (p : α → Bool) (xs : List α) : (!xs.any fun x => !p x) = xs.all p := by
 induction xs with
 | nil => rfl
 | cons x xs ih => simp only [any_cons, all_cons, Bool.not_or, Bool.not_not, ih]
def c95 : LC :=
 .q [.o [.f 2], .o [.m 3 0, .ll 4 3, .bk 5 .leq false 4 4, .m 6 5, .gm 7 6 true 0, .g 8 6 true (.call 133 [.tmp 7, .func 134]), .gu 9 6 true 8, .pf 10 6 9, .m 2 10], .ret]
def zM_ : LF := ⟨1, 11, c95, [.tmp 2]⟩
theorem Eh_ : au_ prog Tryz.f95 zM_ := ah_
theorem ce_ (xs : List ByteArray) (hx : xs.length ≤ 1048576) (h : List Row) : aa_ prog 95 [.list 0 1 (xs.map am_)] h (.val (.bool (bm_ xs))) := by
 refine aj_ mixed Tryz.func95 Eh_ rfl rfl ?_ h
 simp (disch := omega) only [zM_, c95, go_sem, reduceCtorEq, ↓reduceIte]
 repeat' (first
  | exact af_ _ _
  | (refine ae_ ?_; simp only [rN_, bm_, *, Bool.true_and, Bool.false_and, decide_true, decide_false]; done)
  | (refine ae_ ?_; first | rfl | (simp only [bm_, *, Bool.and_true, Bool.true_and, Bool.and_false, Bool.false_and, Bool.or_true, Bool.true_or, Bool.or_false, Bool.false_or, Bool.not_true, Bool.not_false, decide_true, decide_false, Bool.and_self, Bool.or_self]; done) | (simp [bm_, *]; done))
  | simp (disch := omega) only [go_sem, reduceEqDiff, reduceCtorEq, ↓reduceIte]
  | (refine aa_.call (cw_ _ (fun s => !b0_ s) 134 hx (by kernel_rfl) (fun x _ h => hN_ x h) _) ?_)
  | (refine aa_.q (cw_ _ (fun s => !b0_ s) 134 hx (by kernel_rfl) (fun x _ h => hN_ x h) _) ?_)
  | ((first | (apply a1_; assumption) | (apply a0_; assumption) | (apply be_; assumption) | (apply bd_; assumption)); intro hb; try simp only [hb])
  | ((first | (apply aM_; assumption) | (apply aN_; assumption) | (apply aX_; assumption) | (apply aY_; assumption)); intro hb; try simp only [hb])
  | ((first | apply aG_ | apply aJ_ | apply ao_ | apply ar_) <;> intro hb <;> (try simp only [hb]) <;> (first | have hp := a8_ hb | have hp := a6_ hb | have hp := a7_ hb | have hp := a5_ hb | skip)))
def vU_ : LC :=
 .q [.o [.f 2], .q [.o [.m 4 0, .ll 5 4, .bk 6 .gtr false 5 4], .k 6 (.q [.o [.f 2], .ret]) .skip], .q [.o [.ki 3 0], .block 0 (.loop (.q [.q [.o [.m 7 3, .m 8 0, .ll 9 8, .bb 10 .lss false 7 9], .k 10 .skip (.exit 0)],
 .block 1 (.q [.o [.m 13 0, .m 14 3, .ia 15 1 13 14, .ln 16 15, .c1 17 108 16, .nt 18 17], .k 18 (.q [.o [.f 2], .ret]) .skip]), .o [.m 11 3, .bk 12 .add false 11 1, .m 3 12]]))], .o [.t 2], .ret]
def s9_ : LF := ⟨1, 19, vU_, [.tmp 2]⟩
theorem zi_ : au_ prog Tryz.f110 s9_ := ah_
theorem d3_ (xs : List ByteArray) (hx : xs.length ≤ 1048576) (h : List Row) : aa_ prog 110 [.list 0 1 (xs.map am_)] h (.val (.bool (bm_ xs))) := by
 refine aj_ mixed Tryz.func110 zi_ rfl rfl ?_ h
 by_cases h4 : (xs.length : Int) ≤ 4
 ·have h4' : ((4 : Int) < xs.length) = False := by simp; omega
  have hS0 : bm_ xs = xs.all b0_ := by simp [bm_, h4]
  simp (disch := omega) only [s9_, vU_, h4', go_sem, reduceCtorEq, ↓reduceIte]
  refine aP_ (fun n t h => ∃ k : Nat, t 0 = .list 0 1 (xs.map am_) ∧ t 3 = .val (.int .i64 k) ∧ n = xs.length - k ∧ k ≤ xs.length ∧ (xs.all b0_ = (xs.drop k).all b0_)) (xs.length) ?_ ?_
  ·exact ⟨0, rfl, rfl, rfl, Nat.zero_le _, rfl⟩
  ·rintro J hJ n t h ⟨k, t0, k3, rfl, hk, hS⟩
   by_cases hlt : k < xs.length
   ·skip
    rw [p8_ b0_ xs k hlt] at hS
    simp (disch := omega) only [t0, k3, hlt, am_, go_sem, reduceEqDiff, reduceCtorEq, ↓reduceIte]
    repeat' (first
     | exact af_ _ _
     | exact ⟨xs.length - (k + 1), by omega, hJ _ _ _ ⟨k + 1, by simp [upd, t0], by simp [upd], rfl, by omega, by rw [hS]; first | (simp only [*, Bool.true_and]; done) | simp [*]⟩⟩
     | (refine ae_ ?_; rw [hS0, hS]; first | (simp only [*, Bool.false_and]; done) | (simp [*]; done))
     | (refine ae_ ?_; rw [hS0, hS, lF_ _ _ _ (by omega)])
     | simp (disch := omega) only [k3, go_sem, reduceEqDiff, ↓reduceIte]
     | (refine aa_.call (dF_ _ _) ?_)
     | (refine aa_.q (dF_ _ _) ?_)
     | ((first | (apply aM_; assumption) | (apply aN_; assumption) | (apply aX_; assumption) | (apply aY_; assumption)); intro hb; try simp only [hb])
     | ((first | apply ao_ | apply ar_) <;> intro hb <;> (try simp only [hb]) <;> (first | have hp := a8_ hb | have hp := a6_ hb | have hp := a7_ hb | have hp := a5_ hb | skip)))
   ·skip
    simp (disch := omega) only [t0, k3, hlt, go_sem, reduceEqDiff, reduceCtorEq, ↓reduceIte]
    repeat' (first
     | exact af_ _ _
     | (refine ae_ ?_; rw [hS0, hS]; first | (simp only [*, Bool.and_true, Bool.true_and, Bool.and_false, Bool.false_and, Bool.or_true, Bool.true_or, Bool.or_false, Bool.false_or, Bool.not_true, Bool.not_false, decide_true, decide_false, Bool.and_self, Bool.or_self]; done) | (simp [*]; done))
     | (refine ae_ ?_; rw [hS0, hS, lF_ _ _ _ (by omega)])
     | simp (disch := omega) only [t0, k3, go_sem, reduceEqDiff, Nat.reduceAdd, reduceLeDiff, reduceCtorEq, Int.reduceLT, Int.reduceLE, Int.reduceNeg, Int.reduceSub, Int.reduceAdd, Int.reduceToNat, ↓reduceIte]
     | (refine aa_.call (dF_ _ _) ?_)
     | (refine aa_.q (dF_ _ _) ?_)
     | ((first | (apply aM_; assumption) | (apply aN_; assumption) | (apply aX_; assumption) | (apply aY_; assumption)); intro hb; try simp only [hb])
     | ((first | apply ao_ | apply ar_) <;> intro hb <;> (try simp only [hb]) <;> (first | have hp := a8_ hb | have hp := a6_ hb | have hp := a7_ hb | have hp := a5_ hb | skip)))
 ·have h4' : ((4 : Int) < xs.length) = True := by simp; omega
  simp (disch := omega) only [s9_, vU_, h4', go_sem, reduceCtorEq, ↓reduceIte]
  exact ae_ (by simp [bm_, h4])
def c76 : LC :=
 .q [.o [.f 2], .o [.m 3 0, .c1 4 110 3, .m 2 4], .ret]
def CG_ : LF := ⟨1, 5, c76, [.tmp 2]⟩
theorem Dh_ : au_ prog Tryz.f76 CG_ := ah_
theorem bU_ (xs : List ByteArray) (hx : xs.length ≤ 1048576) (h : List Row) : aa_ prog 76 [.list 0 1 (xs.map am_)] h (.val (.bool (bm_ xs))) := by
 refine aj_ mixed Tryz.func76 Dh_ rfl rfl ?_ h
 simp (disch := omega) only [CG_, c76, go_sem, reduceCtorEq, ↓reduceIte]
 repeat' (first
  | exact af_ _ _
  | simp (disch := omega) only [go_sem, ↓reduceIte]
  | (refine aa_.call (d3_ _ hx _) ?_)
  | (refine aa_.q (d3_ _ hx _) ?_)
  | ((first | (apply aM_; assumption) | (apply aN_; assumption) | (apply aX_; assumption) | (apply aY_; assumption)); intro hb; try simp only [hb])
  | ((first | apply ao_ | apply ar_) <;> intro hb <;> (try simp only [hb]) <;> (first | have hp := a8_ hb | have hp := a6_ hb | have hp := a7_ hb | have hp := a5_ hb | skip)))
def dQ_ : List Int → Nat → Bool
 | [], _ => true
 | b :: bs, k => (ed_ b || (decide (k = 0) && decide (b = 37)) || (!decide (k = 0) && gd_ b)) && dQ_ bs (k + 1)
def bY_ (s : ByteArray) : Bool := decide (1 ≤ (s.size : Int)) && decide ((s.size : Int) ≤ 8) && dQ_ (ek_ s) 0
theorem f4_ (bs : List Int) (k : Nat) (h : k < bs.length) : dQ_ (bs.drop k) k = ((ed_ bs[k] || (decide (k = 0) && decide (bs[k] = 37)) || (!decide (k = 0) && gd_ bs[k])) && dQ_ (bs.drop (k + 1)) (k + 1)) := by
 rw [drop_eq_getElem_cons h]; rfl
theorem gt_ (bs : List Int) (k : Nat) (h : bs.length ≤ k) : dQ_ (bs.drop k) k = true := by
 rw [drop_eq_nil_of_le h]; rfl
def c92 : LC :=
 .q [.o [.f 2], .q [.o [.ki 3 0], .block 0 (.loop (.q [.q [.o [.m 5 3, .m 6 0, .s 7 (.lenStr (.tmp 6)), .bb 8 .lss false 5 7], .k 8 .skip (.exit 0)], .block 1 (.q [.o [.m 11 0, .m 12 3, .s 13 (.indexStr (.tmp 11) (.tmp
 12)), .c1 14 127 13, .m 15 14, .gm 16 15 false 3, .g 17 15 false (.bin .eql false (.tmp 16) (.const (.int .i64 0))), .gm 18 15 false 17, .gm 19 18 true 0, .gm 20 18 true 3, .g 21 18 true (.indexStr (.tmp 19) (.tmp 20)),
 .g 22 18 true (.bin .eql false (.tmp 21) (.const (.int .u8 37))), .g 23 15 false (.pick (.tmp 18) (.tmp 22) (.const (.bool false))), .pt 24 15 23, .m 4 24], .o [.m 25 4, .nt 26 25, .m 27 26, .gm 28 27 true 3, .g 29 27
 true (.bin .eql false (.tmp 28) (.const (.int .i64 0))), .gm 30 27 true 29, .gm 31 30 false 0, .gm 32 30 false 3, .g 33 30 false (.indexStr (.tmp 31) (.tmp 32)), .gc 34 30 false 128 33, .gu 35 30 false 34, .g 36 27 true
 (.pick (.tmp 30) (.const (.bool true)) (.tmp 35)), .pf 37 27 36], .k 37 (.q [.o [.f 2], .ret]) .skip]), .o [.m 9 3, .bk 10 .add false 9 1, .m 3 10]]))], .o [.m 38 0, .s 39 (.lenStr (.tmp 38)), .bk 40 .geq false 39 1, .m
 41 40, .gm 42 41 true 0, .g 43 41 true (.lenStr (.tmp 42)), .g 44 41 true (.bin .leq false (.tmp 43) (.const (.int .i64 8))), .pf 45 41 44, .m 2 45], .ret]
def Bj_ : LF := ⟨1, 46, c92, [.tmp 2]⟩
theorem Dr_ : au_ prog Tryz.f92 Bj_ := ah_
theorem dE_ (s : ByteArray) (hs : s.size ≤ 1048576) (h : List Row) : aa_ prog 92 [.val (.string s)] h (.val (.bool (bY_ s))) := by
 refine aj_ mixed Tryz.func92 Dr_ rfl rfl ?_ h
 have hl := df_ s
 simp (disch := omega) only [Bj_, c92, go_sem]
 refine aP_ (fun n t h => ∃ k : Nat, t 0 = .val (.string s) ∧ t 3 = .val (.int .i64 k) ∧ n = s.size - k ∧ k ≤ s.size ∧ (dQ_ (ek_ s) 0 = dQ_ ((ek_ s).drop k) k)) (s.size) ?_ ?_
 ·exact ⟨0, rfl, rfl, rfl, Nat.zero_le _, rfl⟩
 ·rintro J hJ n t h ⟨k, t0, k3, rfl, hk, hS⟩
  by_cases hlt : k < s.size
  ·skip
   rw [f4_ (ek_ s) k (by omega)] at hS
   simp (disch := omega) only [t0, k3, hlt, go_sem, reduceEqDiff, reduceCtorEq, ↓reduceIte]
   repeat' (first
    | exact af_ _ _
    | exact ⟨s.size - (k + 1), by omega, hJ _ _ _ ⟨k + 1, by simp [upd, t0], by simp [upd], rfl, by omega, by rw [hS]; first | (simp only [*, Bool.true_and, Bool.false_and, Bool.or_true, Bool.true_or, Bool.or_false, Bool.not_true, Bool.not_false, Bool.and_self, Bool.or_self]; done) | simp [*]⟩⟩
    | (refine ae_ ?_; simp only [bY_]; rw [hS]; first | (simp only [*, Bool.and_false, Bool.false_and, Bool.not_true, Bool.not_false, Bool.or_self]; done) | (simp [*]; done))
    | (refine ae_ ?_; rw [gt_ _ _ (by omega)] at hS; simp only [bY_]; rw [hS]; first | (simp only [*, Bool.and_true, Bool.true_and, Bool.and_false, Bool.false_and, Bool.or_true, Bool.true_or, Bool.or_false, Bool.false_or, Bool.not_true, Bool.not_false, decide_true, decide_false, Bool.and_self, Bool.or_self]; done) | (simp [*]; done))
    | simp (disch := omega) only [t0, k3, go_sem, reduceEqDiff, reduceCtorEq, ↓reduceIte]
    | (refine aa_.call (eO_ _ _) ?_)
    | (refine aa_.q (eO_ _ _) ?_)
    | (refine aa_.call (e4_ _ _) ?_)
    | (refine aa_.q (e4_ _ _) ?_)
    | ((first | (apply a1_; assumption) | (apply a0_; assumption) | (apply be_; assumption) | (apply bd_; assumption)); intro hb; try simp only [hb])
    | ((first | (apply aM_; assumption) | (apply aN_; assumption) | (apply aX_; assumption) | (apply aY_; assumption)); intro hb; try simp only [hb])
    | ((first | apply aG_ | apply aJ_ | apply ao_ | apply ar_) <;> intro hb <;> (try simp only [hb]) <;> (first | have hp := a8_ hb | have hp := a6_ hb | have hp := a7_ hb | have hp := a5_ hb | skip)))
  ·skip
   simp (disch := omega) only [t0, k3, hlt, go_sem, reduceEqDiff, reduceCtorEq, ↓reduceIte]
   repeat' (first
    | exact af_ _ _
    | (refine ae_ ?_; simp only [bY_]; rw [hS]; first | (simp only [*, Bool.true_and, Bool.false_and, decide_true, decide_false]; done) | (simp [*]; done))
    | (refine ae_ ?_; rw [gt_ _ _ (by omega)] at hS; simp only [bY_]; rw [hS]; first | (simp only [*, Bool.and_true, Bool.true_and, decide_true]; done) | (simp [*]; done))
    | simp (disch := omega) only [t0, go_sem, reduceEqDiff, reduceCtorEq, ↓reduceIte]
    | (refine aa_.call (eO_ _ _) ?_)
    | (refine aa_.q (eO_ _ _) ?_)
    | (refine aa_.call (e4_ _ _) ?_)
    | (refine aa_.q (e4_ _ _) ?_)
    | ((first | (apply a1_; assumption) | (apply a0_; assumption) | (apply be_; assumption) | (apply bd_; assumption)); intro hb; try simp only [hb])
    | ((first | (apply aM_; assumption) | (apply aN_; assumption) | (apply aX_; assumption) | (apply aY_; assumption)); intro hb; try simp only [hb])
    | ((first | apply aG_ | apply aJ_ | apply ao_ | apply ar_) <;> intro hb <;> (try simp only [hb]) <;> (first | have hp := a8_ hb | have hp := a6_ hb | have hp := a7_ hb | have hp := a5_ hb | skip)))
theorem tb_ {s : ByteArray} (h3 : 0 < s.size) (h4 : ed_ ((ek_ s)[0]'(by rw [df_]; exact h3)) = false) (h5 : decide (((ek_ s)[0]'(by rw [df_]; exact h3)) = 37) = false) : bY_ s = false := by
 have h6 := f4_ (ek_ s) 0 (by rw [df_]; exact h3)
 rw [drop_zero] at h6
 simp only [bY_, h6, h4, h5]; simp
theorem p7_ {s : ByteArray} (h1 : decide ((s.size : Int) < 1) = false) (h2 : decide (8 < (s.size : Int)) = false) (h3 : 0 < s.size) (h4 : ed_ ((ek_ s)[0]'(by rw [df_]; exact h3)) = true ∨ ((ek_ s)[0]'(by rw [df_]; exact h3)) = 37) : bY_ s = dQ_ ((ek_ s).drop 1) 1 := by
 have h5 := f4_ (ek_ s) 0 (by rw [df_]; exact h3)
 rw [drop_zero] at h5
 have h6 := of_decide_eq_false h1
 have h7 := of_decide_eq_false h2
 have e1 : decide (1 ≤ (s.size : Int)) = true := by simp; omega
 have e2 : decide ((s.size : Int) ≤ 8) = true := by simp; omega
 simp only [bY_, e1, e2, h5, Bool.true_and]
 rcases h4 with h4 | h4 <;> simp [h4]
def ti_ : LC :=
 .q [.o [.f 2], .q [.o [.m 4 0, .s 5 (.lenStr (.tmp 4)), .bk 6 .lss false 5 1, .m 7 6, .gm 8 7 false 0, .g 9 7 false (.lenStr (.tmp 8)), .g 10 7 false (.bin .gtr false (.tmp 9) (.const (.int .i64 8))), .pt 11 7 10, .m 12
 11, .gm 13 12 false 0, .g 14 12 false (.indexStr (.tmp 13) (.const (.int .i64 0))), .gc 15 12 false 173 14, .gu 16 12 false 15, .gm 17 12 false 16, .gm 18 17 true 0, .g 19 17 true (.indexStr (.tmp 18) (.const (.int .i64
 0))), .g 20 17 true (.bin .neq false (.tmp 19) (.const (.int .u8 37))), .g 21 12 false (.pick (.tmp 17) (.tmp 20) (.const (.bool false))), .pt 22 12 21], .k 22 (.q [.o [.f 2], .ret]) .skip], .q [.o [.ki 3 1], .block 0
 (.loop (.q [.q [.o [.m 23 3, .m 24 0, .s 25 (.lenStr (.tmp 24)), .bb 26 .lss false 23 25], .k 26 .skip (.exit 0)], .block 1 (.q [.o [.m 29 0, .m 30 3, .s 31 (.indexStr (.tmp 29) (.tmp 30)), .c1 32 173 31, .nt 33 32, .m
 34 33, .gm 35 34 true 0, .gm 36 34 true 3, .g 37 34 true (.indexStr (.tmp 35) (.tmp 36)), .gc 38 34 true 174 37, .gu 39 34 true 38, .pf 40 34 39], .k 40 (.q [.o [.f 2], .ret]) .skip]), .o [.m 27 3, .bk 28 .add false 27
 1, .m 3 28]]))], .o [.t 2], .ret]
def pf_ : LF := ⟨1, 41, ti_, [.tmp 2]⟩
theorem zm_ : au_ prog Tryz.f145 pf_ := ah_
theorem iB_ (s : ByteArray) (hs : s.size ≤ 1048576) (h : List Row) : aa_ prog 145 [.val (.string s)] h (.val (.bool (bY_ s))) := by
 refine aj_ mixed Tryz.func145 zm_ rfl rfl ?_ h
 have hl := df_ s
 by_cases h0 : (s.size : Int) < 1
 ·simp (disch := omega) only [pf_, ti_, h0, go_sem, reduceEqDiff, reduceCtorEq, ↓reduceIte]
  have h9 : ¬ (1 ≤ (s.size : Int)) := by omega
  exact ae_ (by simp [bY_, h9])
 by_cases h8 : 8 < (s.size : Int)
 ·simp (disch := omega) only [pf_, ti_, h0, h8, go_sem, reduceEqDiff, reduceCtorEq, ↓reduceIte]
  have h9 : ¬ ((s.size : Int) ≤ 8) := by omega
  exact ae_ (by simp [bY_, h9])
 have hpos : 0 < s.size := by omega
 have hle : (ek_ s)[0]? = some ((ek_ s)[0]'(by omega)) := getElem?_eq_getElem (by omega)
 simp (disch := omega) only [pf_, ti_, h0, h8, go_sem, reduceEqDiff, reduceCtorEq, Int.reduceLE, ↓reduceIte]
 repeat' (first
  | exact af_ _ _
  | (refine ae_ ?_; apply Eq.symm; apply tb_ hpos <;> assumption)
  | (
   have hS0 : bY_ s = dQ_ ((ek_ s).drop 1) 1 := p7_ (by simp; omega) (by simp; omega) hpos (by simp_all)
   refine aP_ (fun n t h => ∃ k : Nat, t 0 = .val (.string s) ∧ t 3 = .val (.int .i64 k) ∧ n = s.size - k ∧ k ≤ s.size ∧ (dQ_ ((ek_ s).drop 1) 1 = dQ_ ((ek_ s).drop k) k ∧ 1 ≤ k)) (s.size - 1) ?_ ?_
   ·exact ⟨1, rfl, rfl, rfl, by omega, ⟨rfl, Nat.le_refl _⟩⟩
   ·rintro J hJ n t h ⟨k, t0, k3, rfl, hk, hS⟩
    by_cases hlt : k < s.size
    ·skip
     obtain ⟨hS, hk1⟩ := hS
     rw [f4_ (ek_ s) k (by omega)] at hS
     have hk0 : decide (k = 0) = false := by simp; omega
     simp only [hk0, Bool.false_and, Bool.or_false, Bool.not_false, Bool.true_and] at hS
     simp (disch := omega) only [t0, k3, hlt, go_sem, reduceEqDiff, reduceCtorEq, ↓reduceIte]
     repeat' (first
      | exact af_ _ _
      | exact ⟨s.size - (k + 1), by omega, hJ _ _ _ ⟨k + 1, by simp [upd, t0], by simp [upd], rfl, by omega, by refine ⟨?_, by omega⟩; rw [hS]; first | (simp only [*, Bool.true_and, Bool.or_true, Bool.true_or]; done) | simp [*]⟩⟩
      | (refine ae_ ?_; rw [hS0, hS]; first | (simp only [*, Bool.false_and, Bool.or_self]; done) | (simp [*]; done))
      | (refine ae_ ?_; rw [hS0, hS.1, gt_ _ _ (by omega)])
      | simp (disch := omega) only [t0, k3, go_sem, reduceEqDiff, reduceCtorEq, ↓reduceIte]
      | (refine aa_.call (c0_ _ _) ?_)
      | (refine aa_.q (c0_ _ _) ?_)
      | (refine aa_.call (em_ _ _) ?_)
      | (refine aa_.q (em_ _ _) ?_)
      | ((first | (apply a1_; assumption) | (apply a0_; assumption) | (apply be_; assumption) | (apply bd_; assumption)); intro hb; try simp only [hb])
      | ((first | (apply aM_; assumption) | (apply aN_; assumption) | (apply aX_; assumption) | (apply aY_; assumption)); intro hb; try simp only [hb])
      | ((first | apply aG_ | apply aJ_ | apply ao_ | apply ar_) <;> intro hb <;> (try simp only [hb]) <;> (first | have hp := a8_ hb | have hp := a6_ hb | have hp := a7_ hb | have hp := a5_ hb | skip)))
    ·skip
     simp (disch := omega) only [t0, k3, hlt, go_sem, reduceEqDiff, reduceCtorEq, ↓reduceIte]
     repeat' (first
      | exact af_ _ _
      | (refine ae_ ?_; rw [hS0, hS]; first | (simp only [*, Bool.and_true, Bool.true_and, Bool.and_false, Bool.false_and, Bool.or_true, Bool.true_or, Bool.or_false, Bool.false_or, Bool.not_true, Bool.not_false, decide_true, decide_false, Bool.and_self, Bool.or_self]; done) | (simp [*]; done))
      | (refine ae_ ?_; rw [hS0, hS.1, gt_ _ _ (by omega)])
      | simp (disch := omega) only [t0, k3, go_sem, reduceEqDiff, Nat.reduceAdd, reduceLeDiff, reduceCtorEq, Int.reduceLT, Int.reduceLE, Int.reduceNeg, Int.reduceSub, Int.reduceAdd, Int.reduceToNat, ↓reduceIte]
      | (refine aa_.call (c0_ _ _) ?_)
      | (refine aa_.q (c0_ _ _) ?_)
      | (refine aa_.call (em_ _ _) ?_)
      | (refine aa_.q (em_ _ _) ?_)
      | ((first | (apply a1_; assumption) | (apply a0_; assumption) | (apply be_; assumption) | (apply bd_; assumption)); intro hb; try simp only [hb])
      | ((first | (apply aM_; assumption) | (apply aN_; assumption) | (apply aX_; assumption) | (apply aY_; assumption)); intro hb; try simp only [hb])
      | ((first | apply aG_ | apply aJ_ | apply ao_ | apply ar_) <;> intro hb <;> (try simp only [hb]) <;> (first | have hp := a8_ hb | have hp := a6_ hb | have hp := a7_ hb | have hp := a5_ hb | skip))))
  | simp (disch := omega) only [go_sem, reduceEqDiff, reduceCtorEq, Int.reduceLE, ↓reduceIte]
  | (refine aa_.call (c0_ _ _) ?_)
  | (refine aa_.q (c0_ _ _) ?_)
  | ((first | (apply a1_; assumption) | (apply a0_; assumption) | (apply be_; assumption) | (apply bd_; assumption)); intro hb; try simp only [hb])
  | ((first | (apply aM_; assumption) | (apply aN_; assumption) | (apply aX_; assumption) | (apply aY_; assumption)); intro hb; try simp only [hb])
  | ((first | apply aG_ | apply aJ_ | apply ao_ | apply ar_) <;> intro hb <;> (try simp only [hb]) <;> (first | have hp := a8_ hb | have hp := a6_ hb | have hp := a7_ hb | have hp := a5_ hb | skip)))
theorem fj_ {α β : Type} (f : α → β) (xs : List α) (n : Nat) : List.take n (List.map f xs) = List.map f (List.take n xs) := map_take.symm
theorem mv_ (a b : ByteArray) : eqS a b = eqS b a := by simp only [eqS]; by_cases h : a = b <;> simp [h]; exact fun e => h e.symm
theorem iF_ {α : Type} (p : α → α → Bool) (hp : ∀ a b, p a b = p b a) : ∀ xs ys : List α, e2_ p xs ys = e2_ p ys xs
 | [], [] => rfl
 | [], _ :: _ => rfl
 | _ :: _, [] => rfl
 | x :: xs, y :: ys => by simp only [e2_, hp x y, iF_ p hp xs ys]
def uT_ : LC :=
 .q [.o [.f 4], .o [.m 5 0, .ll 6 5, .m 7 1, .ll 8 7, .bb 9 .geq false 6 8, .m 10 9, .gm 11 10 true 0, .gm 12 10 true 1, .g 13 10 true (.lenSl (.tmp 12)), .g 14 10 true (.sliceSl 1 (.tmp 11) none (some (.tmp 13))), .gm 15
 10 true 1, .g 16 10 true (.call 138 [.tmp 14, .tmp 15]), .pf 17 10 16, .m 4 17], .ret]
def s0_ : LF := ⟨2, 18, uT_, [.tmp 4]⟩
theorem CQ_ : au_ prog Tryz.f189 s0_ := ah_
theorem jx_ (a b : List ByteArray) (ha : a.length ≤ 1048576) (h : List Row) : aa_ prog 189 [.list 0 1 (a.map am_), .list 0 1 (b.map am_)] h (.val (.bool (cX_ b a))) := by
 refine aj_ mixed Tryz.func189 CQ_ rfl rfl ?_ h
 by_cases hl : b.length ≤ a.length
 ·have hl' : ((b.length : Int) ≤ (a.length : Int)) := by omega
  simp (disch := omega) only [s0_, uT_, hl', hl, bN_, fj_, go_sem, reduceEqDiff, reduceCtorEq, ↓reduceIte]
  refine aa_.call (dh_ (a.take b.length) b (by rw [length_take]; omega) _) ?_
  simp (disch := omega) only [go_sem, reduceEqDiff, ↓reduceIte]
  exact ae_ (by simp only [cX_, hl, br_, decide_true, Bool.true_and]; exact iF_ _ mv_ _ _)
 ·have hl' : ¬ ((b.length : Int) ≤ (a.length : Int)) := by omega
  simp (disch := omega) only [s0_, uT_, hl', go_sem, reduceEqDiff, reduceCtorEq, ↓reduceIte]
  exact ae_ (by simp [cX_, hl])
def way (n : ByteArray) (s : List ByteArray) (o : ByteArray) (os : List ByteArray) : Bool := decide (n = o) && (cX_ s os || cX_ os s)
def zf_ : LC :=
 .q [.o [.f 2], .o [.m 3 0, .c1 4 145 3, .m 2 4], .ret]
def wG_ : LF := ⟨1, 5, zf_, [.tmp 2]⟩
theorem y3_ : au_ prog Tryz.f107 wG_ := ah_
theorem bS_ (s : ByteArray) (hs : s.size ≤ 1048576) (h : List Row) : aa_ prog 107 [.val (.string s)] h (.val (.bool (bY_ s))) := by
 refine aj_ mixed Tryz.func107 y3_ rfl rfl ?_ h
 simp (disch := omega) only [wG_, zf_, go_sem, reduceCtorEq, ↓reduceIte]
 repeat' (first
  | exact af_ _ _
  | simp (disch := omega) only [go_sem, ↓reduceIte]
  | (refine aa_.call (iB_ _ hs _) ?_)
  | (refine aa_.q (iB_ _ hs _) ?_)
  | ((first | (apply aM_; assumption) | (apply aN_; assumption) | (apply aX_; assumption) | (apply aY_; assumption)); intro hb; try simp only [hb])
  | ((first | apply ao_ | apply ar_) <;> intro hb <;> (try simp only [hb]) <;> (first | have hp := a8_ hb | have hp := a6_ hb | have hp := a7_ hb | have hp := a5_ hb | skip)))
end Go.Proofs.YtfkddbkjmkceaaaGreatDoor
