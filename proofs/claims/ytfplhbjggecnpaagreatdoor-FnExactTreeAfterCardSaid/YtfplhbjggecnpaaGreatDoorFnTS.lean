/-
 Contracts of functions of this program, over abstract values. Conditions: as each theorem says.
-/
import Derived.Test.YtfplhbjggecnpaaGreatDoorFnKJ
import Derived.Test.YtfplhbjggecnpaaGreatDoorPlKey
namespace Go.Proofs.YtfplhbjggecnpaaGreatDoor
open List
open Go.AW
set_option linter.unusedVariables false
set_option linter.unusedSimpArgs false
set_option maxRecDepth 4000
theorem n2_ (s : ByteArray) : (!fo_ s) = decide ((s.size : Int) ≤ 64) := by
 rw [fo_, Bool.eq_iff_iff]; simp only [Bool.not_eq_true', decide_eq_false_iff_not, decide_eq_true_eq]; omega
theorem s5_ (xs : List ByteArray) (x : ByteArray) : bh_ (xs ++ [x]) = (decide ((xs.length : Int) + 1 ≤ 4) && (xs.all bR_ && bR_ x)) := by
 simp [bh_]
theorem sC_ (xs : List ByteArray) (h : 0 < xs.length) : xs = bQ_ xs ++ [dT_ xs] := by
 have hlt : xs.length - 1 < xs.length := by omega
 rw [← f7_ xs hlt, bQ_]
 conv => lhs; rw [← take_append_drop (xs.length - 1) xs]
 congr 1
 rw [drop_eq_getElem_cons hlt, drop_eq_nil_of_le (by omega)]
theorem s1_ (xs : List ByteArray) : (decide ((xs.length : Int) ≤ 4) && gv_ xs) = (decide (0 < (xs.length : Int)) && decide ((xs.length : Int) ≤ 4) && bh_ (bQ_ xs) && (decide (dT_ xs = txt []) || bR_ (dT_ xs))) := by
 by_cases h0 : 0 < xs.length
 case neg =>
  have : xs.length = 0 := by omega
  simp [gv_, this]
 have hs : bh_ xs = (decide ((xs.length : Int) ≤ 4) && ((bQ_ xs).all bR_ && bR_ (dT_ xs))) := by
  have e := sC_ xs h0
  have hl : ((bQ_ xs).length : Int) + 1 = xs.length := by rw [bQ_, length_take]; omega
  conv => lhs; rw [e]
  rw [s5_, hl]
 have hf : bh_ (bQ_ xs) = (decide (((bQ_ xs).length : Int) ≤ 4) && (bQ_ xs).all bR_) := rfl
 have hl : ((bQ_ xs).length : Int) = xs.length - 1 := by rw [bQ_, length_take]; omega
 rw [gv_, hs, hf, hl]
 have h1 : decide (0 < (xs.length : Int)) = true := by simp; omega
 rw [h1]
 by_cases h4 : (xs.length : Int) ≤ 4
 ·have h5 : decide ((xs.length : Int) - 1 ≤ 4) = true := by simp; omega
  have h4' : decide ((xs.length : Int) ≤ 4) = true := by simpa using h4
  rw [h4', h5]
  cases (bQ_ xs).all bR_ <;> cases bR_ (dT_ xs) <;> cases decide (dT_ xs = txt []) <;> rfl
 ·have h4' : decide ((xs.length : Int) ≤ 4) = false := by simpa using h4
  rw [h4']; rfl
theorem qF_ {x : ab_} (k5 : ¬ x.Kind = 5) : cE_ x = (bV_ x.Name && bh_ x.Subs) := by rw [cE_, if_neg k5]
theorem sb_ {x : ab_} (k5 : ¬ x.Kind = 5) : bx_ x = (cE_ x && bi_ x) := by
 rw [bx_, if_neg k5, qF_ k5]; cases bV_ x.Name <;> cases bi_ x <;> cases bh_ x.Subs <;> rfl
theorem r7_ {x : ab_} (k5 : x.Kind = 5) : bx_ x = (cE_ x && bi_ x) := by
 rw [bx_, if_pos k5, cE_, if_pos k5, s1_]
 generalize (decide (0 < (x.Subs.length : Int)) && decide ((x.Subs.length : Int) ≤ 4) && bh_ (bQ_ x.Subs) && (decide (dT_ x.Subs = txt []) || bR_ (dT_ x.Subs))) = q
 cases bV_ x.Name <;> cases bi_ x <;> cases q <;> rfl
theorem d4_ (x : ab_) : bx_ x = (cE_ x && bi_ x) := by
 by_cases k5 : x.Kind = 5
 ·exact r7_ k5
 ·exact sb_ k5
theorem EL_ {x : ab_} (k : x.Kind = 1) : bi_ x = (decide ((x.Value.size : Int) ≤ 64) && ew_ x.N && (decide (x.N.tmod 10 = 1) || decide (x.Value = txt []))) := by
 rw [bi_, if_pos k, n2_]; rw [Bool.and_comm (ew_ x.N)]
theorem EH_ {x : ab_} (k : x.Kind = 4) : bi_ x = (ew_ x.N && decide (x.Value = txt [])) := by
 rw [bi_, if_neg (by omega), if_pos k]
theorem EK_ {x : ab_} (k : x.Kind = 5) : bi_ x = ((decide (x.Value = txt []) || bR_ x.Value) && (decide (x.N = 1) || decide (x.N = -1))) := by
 rw [bi_, if_neg (by omega), if_neg (by omega), if_pos k, Bool.and_comm]
theorem nP_ (s : ByteArray) : bh_ (dW_ s).1 = true := by
 rw [dW_]
 cases h : f1_ dV_ (bs s) with
 | none => rfl
 | some xs => simp only; rw [ej_]; exact ((h6_ kL_ (bs s) xs).1 h).1
theorem AV_ {x : ab_} (k : x.Kind = 6) : bi_ x = if x.N = 0 then decide (x.Value = txt []) else decide (x.N = 1) && (dW_ x.Value).2 := by
 rw [bi_, if_neg (by omega), if_neg (by omega), if_neg (by omega), if_pos k]
 by_cases h : x.N = 0
 ·rw [if_pos h, h]; simp
 ·rw [if_neg h]; simp [h]
theorem EC_ {x : ab_} (k : x.Kind = 2) : bi_ x = (decide ((x.Value.size : Int) ≤ 64) && decide (x.N = 0)) := by
 rw [bi_, if_neg (by omega), if_neg (by omega), if_neg (by omega), if_neg (by omega), if_pos k, n2_, Bool.and_comm]
theorem EI_ {x : ab_} (k : x.Kind = 3) : bi_ x = (decide (x.Value = txt []) && decide (x.N = 0)) := by
 rw [bi_, if_neg (by omega), if_neg (by omega), if_neg (by omega), if_neg (by omega), if_neg (by omega)]
 simp [k, Bool.and_comm]
theorem EN_ {x : ab_} (k1 : ¬ x.Kind = 1) (k4 : ¬ x.Kind = 4) (k5 : ¬ x.Kind = 5) (k6 : ¬ x.Kind = 6) (k2 : ¬ x.Kind = 2) (k3 : ¬ x.Kind = 3) : bi_ x = false := by
 simp [bi_, *]
theorem vf_ (s : ByteArray) : (dW_ s).1.length ≤ 1048576 := by
 have := (eH_ (nP_ s)).1; omega
def c80 : LC :=
 .seq (.ops [.s 1 (.box 79 (.tmp 0)), .s 2 (.mov (.const (.bool false)))]) (.seq (.seq (.ops [.ld 5 5 1, .c1 6 81 5, .nt 7 6, .m 8 7, .g 9 8 true (.load (some 5) (.tmp 1)), .g 10 8 true (.call 120 [.tmp 9]), .g 11 8 true
 (.un .not (.tmp 10)), .pf 12 8 11, .m 13 12, .g 14 13 false (.load (some 5) (.tmp 1)), .g 15 13 false (.call 121 [.tmp 14]), .g 16 13 false (.un .not (.tmp 15)), .pt 17 13 16]) (.cond (.tmp 17) (.seq (.ops [.s 2 (.mov
 (.const (.bool false)))]) .ret) .skip)) (.seq (.seq (.ops [.fa 18 0 1, .ln 19 18]) (.block 0 (.seq (.ops [.bk 21 .eql false 19 1, .m 20 21]) (.cond (.tmp 20) (.seq (.ops [.fa 22 3 1, .ln 23 22, .s 24 (.lenStr (.tmp 23)),
 .bk 25 .leq false 24 64, .m 26 25, .g 27 26 true (.fieldAddr 4 (.tmp 1)), .g 28 26 true (.load none (.tmp 27)), .g 29 26 true (.call 122 [.tmp 28]), .pf 30 26 29, .m 31 30, .g 32 31 true (.fieldAddr 4 (.tmp 1)), .g 33 31
 true (.load none (.tmp 32)), .g 34 31 true (.bin .rem false (.tmp 33) (.const (.int .i64 10))), .g 35 31 true (.bin .eql false (.tmp 34) (.const (.int .i64 1))), .g 36 31 true (.mov (.tmp 35)), .g 37 36 false (.fieldAddr
 3 (.tmp 1)), .g 38 36 false (.load none (.tmp 37)), .g 39 36 false (.bin .eql false (.tmp 38) (.const (.string ⟨#[]⟩))), .g 40 31 true (.pick (.tmp 36) (.const (.bool true)) (.tmp 39)), .pf 41 31 40, .m 2 41]) .ret)
 (.seq (.ops [.bk 43 .eql false 19 4, .m 42 43]) (.cond (.tmp 42) (.seq (.ops [.fa 44 4 1, .ln 45 44, .c1 46 122 45, .m 47 46, .g 48 47 true (.fieldAddr 3 (.tmp 1)), .g 49 47 true (.load none (.tmp 48)), .g 50 47 true
 (.bin .eql false (.tmp 49) (.const (.string ⟨#[]⟩))), .pf 51 47 50, .m 2 51]) .ret) (.seq (.ops [.bk 53 .eql false 19 5, .m 52 53]) (.cond (.tmp 52) (.seq (.ops [.fa 54 3 1, .ln 55 54, .s 56 (.bin .eql false (.tmp 55)
 (.const (.string ⟨#[]⟩))), .m 57 56, .g 58 57 false (.fieldAddr 3 (.tmp 1)), .g 59 57 false (.load none (.tmp 58)), .g 60 57 false (.call 123 [.tmp 59]), .pt 61 57 60, .m 62 61, .g 63 62 true (.fieldAddr 4 (.tmp 1)), .g
 64 62 true (.load none (.tmp 63)), .g 65 62 true (.bin .eql false (.tmp 64) (.const (.int .i64 1))), .g 66 62 true (.mov (.tmp 65)), .g 67 66 false (.fieldAddr 4 (.tmp 1)), .g 68 66 false (.load none (.tmp 67)), .g 69 66
 false (.bin .eql false (.tmp 68) (.const (.int .i64 (-1)))), .g 70 62 true (.pick (.tmp 66) (.const (.bool true)) (.tmp 69)), .pf 71 62 70, .m 2 71]) .ret) (.seq (.ops [.bk 73 .eql false 19 6, .m 72 73]) (.cond (.tmp 72)
 (.seq (.seq (.ops [.fa 74 4 1, .ln 75 74, .bk 76 .eql false 75 0]) (.cond (.tmp 76) (.seq (.ops [.fa 77 3 1, .ln 78 77, .s 79 (.bin .eql false (.tmp 78) (.const (.string ⟨#[]⟩))), .m 2 79]) .ret) .skip)) (.seq (.ops [.fa
 81 3 1, .ln 82 81, .c1 83 124 82, .m 80 83, .ex 84 80 0, .ex 85 80 1, .m 3 84, .m 4 85]) (.seq (.ops [.fa 86 4 1, .ln 87 86, .bk 88 .eql false 87 1, .m 89 88, .g 90 89 true (.mov (.tmp 4)), .pf 91 89 90, .m 92 91, .g 93
 92 true (.mov (.tmp 3)), .g 94 92 true (.call 125 [.tmp 93]), .pf 95 92 94, .m 2 95]) .ret))) (.seq (.ops [.bk 97 .eql false 19 2, .m 96 97]) (.cond (.tmp 96) (.seq (.ops [.fa 98 3 1, .ln 99 98, .s 100 (.lenStr (.tmp
 99)), .bk 101 .leq false 100 64, .m 102 101, .g 103 102 true (.fieldAddr 4 (.tmp 1)), .g 104 102 true (.load none (.tmp 103)), .g 105 102 true (.bin .eql false (.tmp 104) (.const (.int .i64 0))), .pf 106 102 105, .m 2
 106]) .ret) .skip)))))))))))) (.seq (.ops [.fa 107 3 1, .ln 108 107, .s 109 (.bin .eql false (.tmp 108) (.const (.string ⟨#[]⟩))), .m 110 109, .g 111 110 true (.fieldAddr 4 (.tmp 1)), .g 112 110 true (.load none (.tmp
 111)), .g 113 110 true (.bin .eql false (.tmp 112) (.const (.int .i64 0))), .pf 114 110 113, .m 2 114]) .ret)))
def jX_ : LF := ⟨1, 115, c80, [.tmp 2]⟩
theorem El_ : at_ Tryz.prog Tryz.f80 jX_ := ai_
theorem fn_ (x : ab_) (hx : ab_.sz x ≤ 1048576) (h : List Row) : aa_ Tryz.prog 80 [.agg (ab_.cells x)] h (.val (.bool (bx_ x))) := by
 refine aj_ mixed Tryz.func80 El_ rfl rfl ?_ h
 have hv := ab_.sz_Value hx
 have hW := fun h => ma_ x hx h
 have hRd := fun h => iD_ x h
 have hTn := fun h => mo_ x h
 have hq := vf_ x.Value
 have hqs := nP_ x.Value
 by_cases k1 : x.Kind = 1
 ·have r : bF_ x = true := by simp [bF_, k1]
  have hN : bx_ x = (cE_ x && (decide ((x.Value.size : Int) ≤ 64) && ew_ x.N && (decide (x.N.tmod 10 = 1) || decide (x.Value = txt [])))) := by rw [d4_, EL_ k1]
  rw [r] at hRd
  simp only [ab_.cells, k1] at hW hRd hTn
  simp (disch := omega) only [jX_, c80, ab_.cells, k1, go_sem, Nat.reduceEqDiff, Nat.reduceAdd, Int.reduceNeg, ↓reduceIte]
  repeat' (first
   | exact af_ _ _
   | (refine ae_ ?_; rw [hN]; simp only [*, Bool.true_and, Bool.and_false, Bool.false_and, Bool.true_or, Bool.false_or, decide_true, decide_false, Bool.and_self]; done)
   | simp (disch := omega) only [go_sem, Nat.reduceEqDiff, Nat.reduceAdd, Int.reduceNeg, ↓reduceIte]
   | (refine aa_.call (hRd _) ?_)
   | (refine aa_.q (hRd _) ?_)
   | (refine aa_.call (hTn _) ?_)
   | (refine aa_.q (hTn _) ?_)
   | (refine aa_.call (hW _) ?_)
   | (refine aa_.q (hW _) ?_)
   | (refine aa_.call (eZ_ _ _) ?_)
   | (refine aa_.q (eZ_ _ _) ?_)
   | ((first | (apply aS_; assumption) | (apply aT_; assumption) | (apply a8_; assumption) | (apply a9_; assumption)); intro hb; try simp only [hb])
   | ((first | (apply aF_; assumption) | (apply aE_; assumption) | (apply aN_; assumption) | (apply aO_; assumption)); intro hb; try simp only [hb])
   | ((first | apply az_ | apply aC_ | apply ak_ | apply an_) <;> intro hb <;> (try simp only [hb]) <;> (first | have hp := aV_ hb | have hp := aU_ hb | have hp := aW_ hb | have hp := aX_ hb | skip)))
 by_cases k4 : x.Kind = 4
 ·have r : bF_ x = true := by simp [bF_, k4]
  have hN : bx_ x = (cE_ x && (ew_ x.N && decide (x.Value = txt []))) := by rw [d4_, EH_ k4]
  rw [r] at hRd
  simp only [ab_.cells, k4] at hW hRd hTn
  simp (disch := omega) only [jX_, c80, ab_.cells, k4, go_sem, Nat.reduceEqDiff, Nat.reduceAdd, Int.reduceNeg, ↓reduceIte]
  repeat' (first
   | exact af_ _ _
   | (refine ae_ ?_; rw [hN]; simp only [*, Bool.true_and, Bool.and_false, Bool.false_and]; done)
   | simp (disch := omega) only [Int.reduceEq, go_sem, Nat.reduceEqDiff, Nat.reduceAdd, Int.reduceNeg, ↓reduceIte]
   | (refine aa_.call (hRd _) ?_)
   | (refine aa_.q (hRd _) ?_)
   | (refine aa_.call (hTn _) ?_)
   | (refine aa_.q (hTn _) ?_)
   | (refine aa_.call (hW _) ?_)
   | (refine aa_.q (hW _) ?_)
   | (refine aa_.call (eZ_ _ _) ?_)
   | (refine aa_.q (eZ_ _ _) ?_)
   | ((first | (apply aS_; assumption) | (apply aT_; assumption) | (apply a8_; assumption) | (apply a9_; assumption)); intro hb; try simp only [hb])
   | ((first | (apply aF_; assumption) | (apply aE_; assumption) | (apply aN_; assumption) | (apply aO_; assumption)); intro hb; try simp only [hb])
   | ((first | apply az_ | apply aC_ | apply ak_ | apply an_) <;> intro hb <;> (try simp only [hb]) <;> (first | have hp := aV_ hb | have hp := aU_ hb | have hp := aW_ hb | have hp := aX_ hb | skip)))
 by_cases k5 : x.Kind = 5
 ·have r : bF_ x = true := by simp [bF_, k5]
  have hN : bx_ x = (cE_ x && ((decide (x.Value = txt []) || bR_ x.Value) && (decide (x.N = 1) || decide (x.N = -1)))) := by rw [d4_, EK_ k5]
  rw [r] at hRd
  simp only [ab_.cells, k5] at hW hRd hTn
  simp (disch := omega) only [jX_, c80, ab_.cells, k5, go_sem, Nat.reduceEqDiff, Nat.reduceAdd, Int.reduceNeg, ↓reduceIte]
  repeat' (first
   | exact af_ _ _
   | (refine ae_ ?_; rw [hN]; simp only [*, Bool.true_and, Bool.and_false, Bool.false_and, Bool.or_true, Bool.true_or, Bool.false_or, Bool.and_self, Bool.or_self]; done)
   | simp (disch := omega) only [Int.reduceEq, go_sem, Nat.reduceEqDiff, Nat.reduceAdd, Int.reduceNeg, ↓reduceIte]
   | (refine aa_.call (hRd _) ?_)
   | (refine aa_.q (hRd _) ?_)
   | (refine aa_.call (hTn _) ?_)
   | (refine aa_.q (hTn _) ?_)
   | (refine aa_.call (hW _) ?_)
   | (refine aa_.q (hW _) ?_)
   | (refine aa_.call (dY_ _ _) ?_)
   | (refine aa_.q (dY_ _ _) ?_)
   | ((first | (apply aS_; assumption) | (apply aT_; assumption) | (apply a8_; assumption) | (apply a9_; assumption)); intro hb; try simp only [hb])
   | ((first | (apply aF_; assumption) | (apply aE_; assumption) | (apply aN_; assumption) | (apply aO_; assumption)); intro hb; try simp only [hb])
   | ((first | apply az_ | apply aC_ | apply ak_ | apply an_) <;> intro hb <;> (try simp only [hb]) <;> (first | have hp := aV_ hb | have hp := aU_ hb | have hp := aW_ hb | have hp := aX_ hb | skip)))
 by_cases k6 : x.Kind = 6
 ·have r : bF_ x = true := by simp [bF_, k6]
  rw [r] at hRd
  simp only [ab_.cells, k6] at hW hRd hTn
  by_cases hn0 : x.N = 0
  ·have hN : bx_ x = (cE_ x && decide (x.Value = txt [])) := by rw [d4_, AV_ k6, if_pos hn0]
   simp (disch := omega) only [jX_, c80, ab_.cells, k6, go_sem, Nat.reduceEqDiff, Nat.reduceAdd, Int.reduceNeg, ↓reduceIte]
   simp only [hn0] at hW hRd hTn
   repeat' (first
    | exact af_ _ _
    | (refine ae_ ?_; rw [hN]; simp only [*, Bool.true_and, Bool.false_and]; done)
    | simp (disch := omega) only [Int.reduceEq, hn0, go_sem, Nat.reduceEqDiff, Nat.reduceAdd, Int.reduceNeg, ↓reduceIte]
    | (refine aa_.call (hRd _) ?_)
    | (refine aa_.q (hRd _) ?_)
    | (refine aa_.call (hTn _) ?_)
    | (refine aa_.q (hTn _) ?_)
    | (refine aa_.call (hW _) ?_)
    | (refine aa_.q (hW _) ?_)
    | ((first | (apply aS_; assumption) | (apply aT_; assumption) | (apply a8_; assumption) | (apply a9_; assumption)); intro hb; try simp only [hb])
    | ((first | (apply aF_; assumption) | (apply aE_; assumption) | (apply aN_; assumption) | (apply aO_; assumption)); intro hb; try simp only [hb])
    | ((first | apply az_ | apply aC_ | apply ak_ | apply an_) <;> intro hb <;> (try simp only [hb]) <;> (first | have hp := aV_ hb | have hp := aU_ hb | have hp := aW_ hb | have hp := aX_ hb | skip)))
  ·have hN : bx_ x = (cE_ x && (decide (x.N = 1) && (dW_ x.Value).2)) := by rw [d4_, AV_ k6, if_neg hn0]
   simp (disch := omega) only [jX_, c80, ab_.cells, k6, go_sem, Nat.reduceEqDiff, Nat.reduceAdd, Int.reduceNeg, ↓reduceIte]
   repeat' (first
    | exact af_ _ _
    | (refine ae_ ?_; rw [hN]; simp only [*, Bool.and_false, Bool.false_and, Bool.and_self]; done)
    | simp (disch := omega) only [Int.reduceEq, hn0, go_sem, Nat.reduceEqDiff, Nat.reduceAdd, Int.reduceNeg, ↓reduceIte]
    | (refine aa_.call (hRd _) ?_)
    | (refine aa_.q (hRd _) ?_)
    | (refine aa_.call (hTn _) ?_)
    | (refine aa_.q (hTn _) ?_)
    | (refine aa_.call (hW _) ?_)
    | (refine aa_.q (hW _) ?_)
    | (refine aa_.call (iC_ _ hv _) ?_)
    | (refine aa_.q (iC_ _ hv _) ?_)
    | (refine aa_.call (bM_ _ hq _) ?_)
    | (refine aa_.q (bM_ _ hq _) ?_)
    | ((first | (apply aS_; assumption) | (apply aT_; assumption) | (apply a8_; assumption) | (apply a9_; assumption)); intro hb; try simp only [hb])
    | ((first | (apply aF_; assumption) | (apply aE_; assumption) | (apply aN_; assumption) | (apply aO_; assumption)); intro hb; try simp only [hb])
    | ((first | apply az_ | apply aC_ | apply ak_ | apply an_) <;> intro hb <;> (try simp only [hb]) <;> (first | have hp := aV_ hb | have hp := aU_ hb | have hp := aW_ hb | have hp := aX_ hb | skip)))
 by_cases k2 : x.Kind = 2
 ·have r : bF_ x = false := by simp [bF_, k2]
  have r2 : cd_ x = true := by simp [cd_, k2]
  have hN : bx_ x = (cE_ x && (decide ((x.Value.size : Int) ≤ 64) && decide (x.N = 0))) := by rw [d4_, EC_ k2]
  rw [r] at hRd
  rw [r2] at hTn
  simp only [ab_.cells, k2] at hW hRd hTn
  simp (disch := omega) only [jX_, c80, ab_.cells, k2, go_sem, Nat.reduceEqDiff, Nat.reduceAdd, Int.reduceNeg, ↓reduceIte]
  repeat' (first
   | exact af_ _ _
   | (refine ae_ ?_; rw [hN]; simp only [*, Bool.true_and, Bool.and_false, Bool.false_and, decide_true, decide_false]; done)
   | simp (disch := omega) only [Int.reduceEq, go_sem, Nat.reduceEqDiff, Nat.reduceAdd, Int.reduceNeg, ↓reduceIte]
   | (refine aa_.call (hRd _) ?_)
   | (refine aa_.q (hRd _) ?_)
   | (refine aa_.call (hTn _) ?_)
   | (refine aa_.q (hTn _) ?_)
   | (refine aa_.call (hW _) ?_)
   | (refine aa_.q (hW _) ?_)
   | ((first | (apply aS_; assumption) | (apply aT_; assumption) | (apply a8_; assumption) | (apply a9_; assumption)); intro hb; try simp only [hb])
   | ((first | (apply aF_; assumption) | (apply aE_; assumption) | (apply aN_; assumption) | (apply aO_; assumption)); intro hb; try simp only [hb])
   | ((first | apply az_ | apply aC_ | apply ak_ | apply an_) <;> intro hb <;> (try simp only [hb]) <;> (first | have hp := aV_ hb | have hp := aU_ hb | have hp := aW_ hb | have hp := aX_ hb | skip)))
 by_cases k3 : x.Kind = 3
 ·have r : bF_ x = false := by simp [bF_, k3]
  have r2 : cd_ x = true := by simp [cd_, k3]
  have hN : bx_ x = (cE_ x && (decide (x.Value = txt []) && decide (x.N = 0))) := by rw [d4_, EI_ k3]
  rw [r] at hRd
  rw [r2] at hTn
  simp only [ab_.cells, k3] at hW hRd hTn
  simp (disch := omega) only [jX_, c80, ab_.cells, k3, go_sem, Nat.reduceEqDiff, Nat.reduceAdd, Int.reduceNeg, ↓reduceIte]
  repeat' (first
   | exact af_ _ _
   | (refine ae_ ?_; rw [hN]; simp only [*, Bool.true_and, Bool.and_false, Bool.false_and]; done)
   | simp (disch := omega) only [Int.reduceEq, go_sem, Nat.reduceEqDiff, Nat.reduceAdd, Int.reduceNeg, ↓reduceIte]
   | (refine aa_.call (hRd _) ?_)
   | (refine aa_.q (hRd _) ?_)
   | (refine aa_.call (hTn _) ?_)
   | (refine aa_.q (hTn _) ?_)
   | (refine aa_.call (hW _) ?_)
   | (refine aa_.q (hW _) ?_)
   | ((first | (apply aS_; assumption) | (apply aT_; assumption) | (apply a8_; assumption) | (apply a9_; assumption)); intro hb; try simp only [hb])
   | ((first | (apply aF_; assumption) | (apply aE_; assumption) | (apply aN_; assumption) | (apply aO_; assumption)); intro hb; try simp only [hb])
   | ((first | apply az_ | apply aC_ | apply ak_ | apply an_) <;> intro hb <;> (try simp only [hb]) <;> (first | have hp := aV_ hb | have hp := aU_ hb | have hp := aW_ hb | have hp := aX_ hb | skip)))
 have r : bF_ x = false := by simp [bF_, *]
 have r2 : cd_ x = false := by simp [cd_, *]
 have hN : bx_ x = false := by rw [d4_, EN_ k1 k4 k5 k6 k2 k3]; simp
 rw [r] at hRd
 rw [r2] at hTn
 simp only [ab_.cells] at hW hRd hTn
 simp (disch := omega) only [jX_, c80, ab_.cells, go_sem, Nat.reduceEqDiff, Nat.reduceAdd, Int.reduceNeg, ↓reduceIte]
 repeat' (first
  | exact af_ _ _
  | (refine ae_ ?_; rw [hN]; done)
  | simp (disch := omega) only [go_sem, Nat.reduceEqDiff, Nat.reduceAdd, Int.reduceNeg, ↓reduceIte]
  | (refine aa_.call (hRd _) ?_)
  | (refine aa_.q (hRd _) ?_)
  | (refine aa_.call (hTn _) ?_)
  | (refine aa_.q (hTn _) ?_)
  | (refine aa_.call (hW _) ?_)
  | (refine aa_.q (hW _) ?_)
  | ((first | (apply aS_; assumption) | (apply aT_; assumption) | (apply a8_; assumption) | (apply a9_; assumption)); intro hb; try simp only [hb])
  | ((first | (apply aF_; assumption) | (apply aE_; assumption) | (apply aN_; assumption) | (apply aO_; assumption)); intro hb; try simp only [hb])
  | ((first | apply az_ | apply aC_ | apply ak_ | apply an_) <;> intro hb <;> (try simp only [hb]) <;> (first | have hp := aV_ hb | have hp := aU_ hb | have hp := aW_ hb | have hp := aX_ hb | skip)))
end Go.Proofs.YtfplhbjggecnpaaGreatDoor
namespace Go.AW
set_option linter.unusedSimpArgs false
theorem jr_ : ∀ a b c : List UInt8, Op.bytesLess a b = true → Op.bytesLess b c = true → Op.bytesLess a c = true
 | [], [], _, h, _ => by simp [Op.bytesLess] at h
 | _ :: _, [], _, h, _ => by simp [Op.bytesLess] at h
 | [], _ :: _, [], _, h => by simp [Op.bytesLess] at h
 | [], _ :: _, _ :: _, _, _ => rfl
 | _ :: _, _ :: _, [], _, h => by simp [Op.bytesLess] at h
 | x :: a, y :: b, z :: c, h1, h2 => by
  simp only [Op.bytesLess, Bool.or_eq_true, Bool.and_eq_true, decide_eq_true_eq, beq_iff_eq] at h1 h2 ⊢
  rcases h1 with h1 | ⟨h1, k1⟩
  ·rcases h2 with h2 | ⟨h2, k2⟩
   ·exact .inl (UInt8.lt_trans h1 h2)
   ·subst h2; exact .inl h1
  ·subst h1
   rcases h2 with h2 | ⟨h2, k2⟩
   ·exact .inl h2
   ·exact .inr ⟨h2, jr_ a b c k1 k2⟩
theorem p0_ (a b c : List UInt8) (h1 : before a b = true) (h2 : before b c = true) : before a c = true := by
 unfold before at h1 h2 ⊢
 cases ha : b4_ a <;> cases hb : b4_ b <;> cases hc : b4_ c <;> simp only [ha, hb, hc, Bool.and_true, Bool.and_false, Bool.false_eq_true, if_true, if_false, bne_self_eq_false, Bool.and_self] at h1 h2 ⊢ <;> try (simp at h1 h2 ⊢; done)
 ·exact jr_ a b c h1 h2
 ·simp at h1 h2 ⊢; omega
theorem oK_ (a : List UInt8) : before a a = false := by
 unfold before
 cases ha : b4_ a <;> simp [eP_]
theorem pA_ (a b : List UInt8) (h : a ≠ b) : before a b = true ∨ before b a = true := by
 rcases Int.lt_trichotomy (dj_ a b) 0 with q | q | q
 ·exact .inl ((iY_ a b).1 q)
 ·exact absurd ((fg_ a b).1 q) h
 ·right
  unfold before
  unfold dj_ at q
  cases ha : b4_ a <;> cases hb : b4_ b <;> simp only [ha, hb, Bool.and_true, Bool.and_false, Bool.false_eq_true, if_true, if_false, bne_self_eq_false, Bool.and_self] at q ⊢
  ·unfold iZ_ at q
   split at q
   ·simp at q
   ·split at q
    ·assumption
    ·simp at q
  ·simp
  ·simp at q
  ·unfold ko_ at q
   split at q
   ·omega
   ·split at q
    ·simpa using ‹_›
    ·simp at q
theorem lS_ : ∀ a b c : List (List UInt8), cf_ a b = true → cf_ b c = true → cf_ a c = true
 | [], [], _, h, _ => by simp [cf_] at h
 | _ :: _, [], _, h, _ => by simp [cf_] at h
 | [], _ :: _, [], _, h => by simp [cf_] at h
 | [], _ :: _, _ :: _, _, _ => rfl
 | _ :: _, _ :: _, [], _, h => by simp [cf_] at h
 | x :: a, y :: b, z :: c, h1, h2 => by
  simp only [cf_] at h1 h2 ⊢
  by_cases e1 : x = y
  ·subst e1
   rw [if_pos rfl] at h1
   by_cases e2 : x = z
   ·subst e2; rw [if_pos rfl] at h2 ⊢; exact lS_ a b c h1 h2
   ·rw [if_neg e2] at h2 ⊢; exact h2
  ·rw [if_neg e1] at h1
   by_cases e2 : y = z
   ·subst e2; rw [if_neg e1]; exact h1
   ·rw [if_neg e2] at h2
    have ht := p0_ x y z h1 h2
    have hne : ¬ x = z := by
     intro e; subst e
     rw [oK_] at ht; simp at ht
    rw [if_neg hne]; exact ht
theorem lC_ : ∀ a b : List (List UInt8), a ≠ b → cf_ a b = true ∨ cf_ b a = true
 | [], [], h => absurd rfl h
 | [], _ :: _, _ => .inl rfl
 | _ :: _, [], _ => .inr rfl
 | x :: a, y :: b, h => by
  simp only [cf_]
  by_cases e : x = y
  ·subst e
   rw [if_pos rfl, if_pos rfl]
   exact lC_ a b (fun q => h (by rw [q]))
  ·rw [if_neg e, if_neg (fun q => e q.symm)]
   exact pA_ x y e
theorem qT_ {n : List UInt8} {s : List (List UInt8)} {o : List UInt8} {os : List (List UInt8)} {p : List UInt8} {ps : List (List UInt8)} (h1 : d3_ n s o os = true) (h2 : d3_ o os p ps = true) : d3_ n s p ps = true := by
 unfold d3_ at h1 h2 ⊢
 by_cases e1 : n = o
 ·subst e1
  rw [if_pos rfl] at h1
  by_cases e2 : n = p
  ·subst e2; rw [if_pos rfl] at h2 ⊢; exact lS_ _ _ _ h1 h2
  ·rw [if_neg e2] at h2 ⊢; exact h2
 ·rw [if_neg e1] at h1
  by_cases e2 : o = p
  ·subst e2; rw [if_neg e1]; exact h1
  ·rw [if_neg e2] at h2
   have ht := jr_ n o p h1 h2
   have hne : ¬ n = p := by
    intro e; subst e
    rw [eP_] at ht; simp at ht
   rw [if_neg hne]; exact ht
theorem qB_ {n : List UInt8} {s : List (List UInt8)} {o : List UInt8} {os : List (List UInt8)} (h : ¬ (n = o ∧ s = os)) : d3_ n s o os = true ∨ d3_ o os n s = true := by
 unfold d3_
 by_cases e : n = o
 ·subst e
  rw [if_pos rfl, if_pos rfl]
  exact lC_ s os (fun q => h ⟨rfl, q⟩)
 ·rw [if_neg e, if_neg (fun q => e q.symm)]
  cases h1 : Op.bytesLess n o
  ·cases h2 : Op.bytesLess o n
   ·exact absurd (hI_ n o h1 h2) e
   ·exact .inr rfl
  ·exact .inl rfl
end Go.AW
namespace Go.Proofs.YtfplhbjggecnpaaGreatDoor
open List
open Go.AW
set_option linter.unusedVariables false
set_option linter.unusedSimpArgs false
set_option maxRecDepth 4000
def cR_ (n : ByteArray) (s : List ByteArray) : Bool := bV_ n && bh_ s
def CG_ : LC :=
 .seq (.ops [.s 4 (.mov (.const (.bool false)))]) (.seq (.ops [.m 5 0, .c1 6 140 5, .m 7 6, .g 8 7 true (.mov (.tmp 1)), .g 9 7 true (.call 143 [.tmp 8]), .pf 10 7 9, .m 4 10]) .ret)
def xj_ : LF := ⟨2, 11, CG_, [.tmp 4]⟩
theorem AB_ : at_ Tryz.prog Tryz.f135 xj_ := ai_
theorem e1_ (n : ByteArray) (s : List ByteArray) (hn : n.size ≤ 1048576) (hs : s.length ≤ 1048576) (h : List Row) : aa_ Tryz.prog 135 [.val (.string n), .list 0 1 (s.map am_)] h (.val (.bool (cR_ n s))) := by
 refine aj_ mixed Tryz.func135 AB_ rfl rfl ?_ h
 simp (disch := omega) only [xj_, CG_, go_sem, reduceCtorEq, ↓reduceIte]
 repeat' (first
  | exact af_ _ _
  | (refine ae_ ?_; first | rfl | (simp only [cR_, *, Bool.true_and, Bool.false_and]; done) | (simp [cR_, *]; done))
  | simp (disch := omega) only [go_sem, Nat.reduceEqDiff, ↓reduceIte]
  | (refine aa_.call (dG_ _ hn _) ?_)
  | (refine aa_.q (dG_ _ hn _) ?_)
  | (refine aa_.call (cc_ _ hs _) ?_)
  | (refine aa_.q (cc_ _ hs _) ?_)
  | ((first | (apply aS_; assumption) | (apply aT_; assumption) | (apply a8_; assumption) | (apply a9_; assumption)); intro hb; try simp only [hb])
  | ((first | (apply aF_; assumption) | (apply aE_; assumption) | (apply aN_; assumption) | (apply aO_; assumption)); intro hb; try simp only [hb])
  | ((first | apply az_ | apply aC_ | apply ak_ | apply an_) <;> intro hb <;> (try simp only [hb]) <;> (first | have hp := aV_ hb | have hp := aU_ hb | have hp := aW_ hb | have hp := aX_ hb | skip)))
def B5_ : LC :=
 .seq (.ops [.s 4 (.mov (.const (.bool false)))]) (.seq (.ops [.m 5 0, .c1 6 158 5, .m 7 6, .g 8 7 true (.mov (.tmp 1)), .g 9 7 true (.call 125 [.tmp 8]), .pf 10 7 9, .m 4 10]) .ret)
def w7_ : LF := ⟨2, 11, B5_, [.tmp 4]⟩
theorem y8_ : at_ Tryz.prog Tryz.f118 w7_ := ai_
theorem cv_ (n : ByteArray) (s : List ByteArray) (hn : n.size ≤ 1048576) (hs : s.length ≤ 1048576) (h : List Row) : aa_ Tryz.prog 118 [.val (.string n), .list 0 1 (s.map am_)] h (.val (.bool (cR_ n s))) := by
 refine aj_ mixed Tryz.func118 y8_ rfl rfl ?_ h
 simp (disch := omega) only [w7_, B5_, go_sem, reduceCtorEq, ↓reduceIte]
 repeat' (first
  | exact af_ _ _
  | (refine ae_ ?_; first | rfl | (simp only [cR_, *, Bool.true_and, Bool.false_and]; done) | (simp [cR_, *]; done))
  | simp (disch := omega) only [go_sem, Nat.reduceEqDiff, ↓reduceIte]
  | (refine aa_.call (bO_ _ hn _) ?_)
  | (refine aa_.q (bO_ _ hn _) ?_)
  | (refine aa_.call (bM_ _ hs _) ?_)
  | (refine aa_.q (bM_ _ hs _) ?_)
  | ((first | (apply aS_; assumption) | (apply aT_; assumption) | (apply a8_; assumption) | (apply a9_; assumption)); intro hb; try simp only [hb])
  | ((first | (apply aF_; assumption) | (apply aE_; assumption) | (apply aN_; assumption) | (apply aO_; assumption)); intro hb; try simp only [hb])
  | ((first | apply az_ | apply aC_ | apply ak_ | apply an_) <;> intro hb <;> (try simp only [hb]) <;> (first | have hp := aV_ hb | have hp := aU_ hb | have hp := aW_ hb | have hp := aX_ hb | skip)))
def cA_ (x : ac_) : Bool := cR_ x.Name x.Subs && decide ((x.Value.size : Int) ≤ 64)
def c88 : LC :=
 .seq (.ops [.s 1 (.box 112 (.tmp 0)), .s 2 (.mov (.const (.bool false)))]) (.seq (.ops [.fa 3 0 1, .ln 4 3, .fa 5 1 1, .ln 6 5, .c2 7 135 4 6, .m 8 7, .g 9 8 true (.fieldAddr 2 (.tmp 1)), .g 10 8 true (.load none (.tmp
 9)), .g 11 8 true (.lenStr (.tmp 10)), .g 12 8 true (.bin .leq false (.tmp 11) (.const (.int .i64 64))), .pf 13 8 12, .m 2 13]) .ret)
def Bp_ : LF := ⟨1, 14, c88, [.tmp 2]⟩
theorem EB_ : at_ Tryz.prog Tryz.f88 Bp_ := ai_
theorem nr_ (x : ac_) (hx : ac_.sz x ≤ 1048576) (h : List Row) : aa_ Tryz.prog 88 [.agg (ac_.cells x)] h (.val (.bool (cA_ x))) := by
 refine aj_ mixed Tryz.func88 EB_ rfl rfl ?_ h
 simp (disch := omega) only [Bp_, c88, ac_.cells, go_sem, Nat.reduceEqDiff, Nat.reduceAdd, ↓reduceIte]
 repeat' (first
  | exact af_ _ _
  | (refine ae_ ?_; first | rfl | (simp only [cA_, *, Bool.true_and, Bool.false_and]; done) | (simp [cA_, *]; done))
  | simp (disch := omega) only [go_sem, Nat.reduceEqDiff, ↓reduceIte]
  | (refine aa_.call (e1_ _ _ (ac_.sz_Name hx) (ax_ (ac_.sz_Subs hx)) _) ?_)
  | (refine aa_.q (e1_ _ _ (ac_.sz_Name hx) (ax_ (ac_.sz_Subs hx)) _) ?_)
  | ((first | (apply aS_; assumption) | (apply aT_; assumption) | (apply a8_; assumption) | (apply a9_; assumption)); intro hb; try simp only [hb])
  | ((first | (apply aF_; assumption) | (apply aE_; assumption) | (apply aN_; assumption) | (apply aO_; assumption)); intro hb; try simp only [hb])
  | ((first | apply az_ | apply aC_ | apply ak_ | apply an_) <;> intro hb <;> (try simp only [hb]) <;> (first | have hp := aV_ hb | have hp := aU_ hb | have hp := aW_ hb | have hp := aX_ hb | skip)))
def c78 : LC :=
 .seq (.ops [.s 1 (.box 112 (.tmp 0)), .s 2 (.mov (.const (.bool false)))]) (.seq (.ops [.fa 3 0 1, .ln 4 3, .fa 5 1 1, .ln 6 5, .c2 7 118 4 6, .m 8 7, .g 9 8 true (.fieldAddr 2 (.tmp 1)), .g 10 8 true (.load none (.tmp
 9)), .g 11 8 true (.lenStr (.tmp 10)), .g 12 8 true (.bin .leq false (.tmp 11) (.const (.int .i64 64))), .pf 13 8 12, .m 2 13]) .ret)
def Ai_ : LF := ⟨1, 14, c78, [.tmp 2]⟩
theorem Eh_ : at_ Tryz.prog Tryz.f78 Ai_ := ai_
theorem mA_ (x : ac_) (hx : ac_.sz x ≤ 1048576) (h : List Row) : aa_ Tryz.prog 78 [.agg (ac_.cells x)] h (.val (.bool (cA_ x))) := by
 refine aj_ mixed Tryz.func78 Eh_ rfl rfl ?_ h
 simp (disch := omega) only [Ai_, c78, ac_.cells, go_sem, Nat.reduceEqDiff, Nat.reduceAdd, ↓reduceIte]
 repeat' (first
  | exact af_ _ _
  | (refine ae_ ?_; first | rfl | (simp only [cA_, *, Bool.true_and, Bool.false_and]; done) | (simp [cA_, *]; done))
  | simp (disch := omega) only [go_sem, Nat.reduceEqDiff, ↓reduceIte]
  | (refine aa_.call (cv_ _ _ (ac_.sz_Name hx) (ax_ (ac_.sz_Subs hx)) _) ?_)
  | (refine aa_.q (cv_ _ _ (ac_.sz_Name hx) (ax_ (ac_.sz_Subs hx)) _) ?_)
  | ((first | (apply aS_; assumption) | (apply aT_; assumption) | (apply a8_; assumption) | (apply a9_; assumption)); intro hb; try simp only [hb])
  | ((first | (apply aF_; assumption) | (apply aE_; assumption) | (apply aN_; assumption) | (apply aO_; assumption)); intro hb; try simp only [hb])
  | ((first | apply az_ | apply aC_ | apply ak_ | apply an_) <;> intro hb <;> (try simp only [hb]) <;> (first | have hp := aV_ hb | have hp := aU_ hb | have hp := aW_ hb | have hp := aX_ hb | skip)))
theorem sY_ (xs ys : List ByteArray) (k : Nat) (h1 : k < xs.length) (h2 : k < ys.length) : cf_ (bss (xs.drop k)) (bss (ys.drop k)) = if xs[k] = ys[k] then cf_ (bss (xs.drop (k + 1))) (bss (ys.drop (k + 1))) else before xs[k].data.toList ys[k].data.toList := by
 rw [drop_eq_getElem_cons h1, drop_eq_getElem_cons h2]
 simp only [bss, map_cons, cf_, mM_]
theorem oc_ (xs ys : List ByteArray) (k : Nat) (h : xs.length ≤ k ∨ ys.length ≤ k) (h1 : k ≤ xs.length) (h2 : k ≤ ys.length) : cf_ (bss (xs.drop k)) (bss (ys.drop k)) = decide ((xs.length : Int) < ys.length) := by
 rcases Nat.lt_or_ge k xs.length with q | q
 ·have : ys.length ≤ k := by omega
  rw [drop_eq_getElem_cons q, drop_eq_nil_of_le this]
  show false = _; symm; rw [decide_eq_false_iff_not]; omega
 ·rw [drop_eq_nil_of_le q]
  rcases Nat.lt_or_ge k ys.length with q2 | q2
  ·rw [drop_eq_getElem_cons q2]; show true = _; symm; rw [decide_eq_true_eq]; omega
  ·rw [drop_eq_nil_of_le q2]; show false = _; symm; rw [decide_eq_false_iff_not]; omega
def Bw_ : LC :=
 .seq (.ops [.s 4 (.mov (.const (.bool false)))]) (.seq (.seq (.ops [.ki 5 0]) (.block 0 (.loop (.seq (.seq (.ops [.m 6 5, .m 7 0, .ll 8 7, .bb 9 .lss false 6 8, .m 10 9, .g 11 10 true (.mov (.tmp 5)), .g 12 10 true (.mov
 (.tmp 1)), .g 13 10 true (.lenSl (.tmp 12)), .g 14 10 true (.bin .lss false (.tmp 11) (.tmp 13)), .pf 15 10 14]) (.cond (.tmp 15) .skip (.exit 0))) (.seq (.block 1 (.seq (.dops [.m 18 0, .m 19 5, .ia 20 1 18 19, .ln 21
 20, .m 22 1, .m 23 5, .ia 24 1 22 23, .ln 25 24, .bb 26 .neq false 21 25]) (.cond (.tmp 26) (.seq (.dops [.m 27 0, .m 28 5, .ia 29 1 27 28, .ln 30 29, .m 31 1, .m 32 5, .ia 33 1 31 32, .ln 34 33, .c2 35 194 30 34, .m 4
 35]) .ret) .skip))) (.ops [.m 16 5, .bk 17 .add false 16 1, .m 5 17])))))) (.seq (.ops [.m 36 0, .ll 37 36, .m 38 1, .ll 39 38, .bb 40 .lss false 37 39, .m 4 40]) .ret))
def wD_ : LF := ⟨2, 41, Bw_, [.tmp 4]⟩
theorem AK_ : at_ Tryz.prog Tryz.f159 wD_ := ai_
theorem ge_ (s os : List ByteArray) (hs : ao_ ByteArray.size s ≤ 1048576) (hos : ao_ ByteArray.size os ≤ 1048576) (h : List Row) :
 aa_ Tryz.prog 159 [.list 0 1 (s.map am_), .list 0 1 (os.map am_)] h (.val (.bool (cf_ (bss s) (bss os)))) := by
 refine aj_ mixed Tryz.func159 AK_ rfl rfl ?_ h
 have hl1 := ax_ hs
 have hl2 := ax_ hos
 simp (disch := omega) only [wD_, Bw_, go_sem]
 refine aL_ (fun m t h => ∃ k : Nat, t 0 = .list 0 1 (s.map am_) ∧ t 1 = .list 0 1 (os.map am_) ∧ t 5 = .val (.int .i64 k) ∧ m = s.length - k ∧ k ≤ s.length ∧ k ≤ os.length ∧ cf_ (bss s) (bss os) = cf_ (bss (s.drop k)) (bss (os.drop k))) s.length ?_ ?_
 ·exact ⟨0, rfl, rfl, rfl, rfl, Nat.zero_le _, Nat.zero_le _, rfl⟩
 ·rintro J hJ m t h ⟨k, t1, t3, t9, rfl, hk, hk2, hS⟩
  by_cases hlt : k < s.length
  ·by_cases hlt2 : k < os.length
   ·rw [sY_ s os k hlt hlt2] at hS
    by_cases e : s[k] = os[k]
    ·have e' : (s[k] = os[k]) = True := eq_true e
     simp (disch := omega) only [t1, t3, t9, hlt, hlt2, e', am_, go_sem, Nat.reduceEqDiff, reduceCtorEq, ↓reduceIte]
     exact ⟨s.length - (k + 1), by omega, hJ _ _ _ ⟨k + 1, by simp [upd, t1], by simp [upd, t3], by simp [upd], rfl, by omega, by omega, by rw [hS, if_pos e]⟩⟩
    ·have e' : (s[k] = os[k]) = False := eq_false e
     simp (disch := omega) only [t1, t3, t9, hlt, hlt2, e', am_, go_sem, Nat.reduceEqDiff, reduceCtorEq, ↓reduceIte]
     refine aa_.q (fA_ _ _ (eS_ hs (getElem_mem hlt)) (eS_ hos (getElem_mem hlt2)) _) ?_
     try simp (disch := omega) only [t1, t3, t9, go_sem, Nat.reduceEqDiff, Nat.reduceAdd, Nat.reduceLeDiff, reduceCtorEq, Int.reduceLT, Int.reduceLE, Int.reduceNeg, Int.reduceSub, Int.reduceAdd, Int.reduceToNat, ↓reduceIte]
     exact ae_ (by rw [hS, if_neg e])
   ·simp (disch := omega) only [t1, t3, t9, hlt, hlt2, go_sem, Nat.reduceEqDiff, reduceCtorEq, ↓reduceIte]
    exact ae_ (by rw [hS, oc_ s os k (.inr (by omega)) hk hk2, decide_eq_decide]; omega)
  ·simp (disch := omega) only [t1, t3, t9, hlt, go_sem, Nat.reduceEqDiff, reduceCtorEq, ↓reduceIte]
   exact ae_ (by rw [hS, oc_ s os k (.inl (by omega)) hk hk2, decide_eq_decide]; omega)
theorem vZ_ (a b : List (List UInt8)) : decide (fy_ a b < 0) = cf_ a b := by
 rw [Bool.eq_iff_iff, decide_eq_true_eq, l9_]
def zK_ : LC :=
 .seq (.ops [.s 4 (.mov (.const (.bool false)))]) (.seq (.ops [.m 5 0, .m 6 1, .c2 7 159 5 6, .m 4 7]) .ret)
def xv_ : LF := ⟨2, 8, zK_, [.tmp 4]⟩
theorem zM_ : at_ Tryz.prog Tryz.f119 xv_ := ai_
theorem ha_ (s os : List ByteArray) (hs : ao_ ByteArray.size s ≤ 1048576) (hos : ao_ ByteArray.size os ≤ 1048576) (h : List Row) : aa_ Tryz.prog 119 [.list 0 1 (s.map am_), .list 0 1 (os.map am_)] h (.val (.bool (cf_ (bss s) (bss os)))) := by
 refine aj_ mixed Tryz.func119 zM_ rfl rfl ?_ h
 simp (disch := omega) only [xv_, zK_, go_sem, Nat.reduceEqDiff, reduceCtorEq, ↓reduceIte]
 repeat' (first
  | exact af_ _ _
  | simp (disch := omega) only [go_sem, ↓reduceIte]
  | (refine aa_.call (ge_ _ _ hs hos _) ?_)
  | (refine aa_.q (ge_ _ _ hs hos _) ?_)
  | ((first | (apply aF_; assumption) | (apply aE_; assumption) | (apply aN_; assumption) | (apply aO_; assumption)); intro hb; try simp only [hb])
  | ((first | apply ak_ | apply an_) <;> intro hb <;> (try simp only [hb]) <;> (first | have hp := aV_ hb | have hp := aU_ hb | have hp := aW_ hb | have hp := aX_ hb | skip)))
def BU_ : LC :=
 .seq (.ops [.s 4 (.mov (.const (.bool false)))]) (.seq (.ops [.m 5 0, .m 6 1, .c2 7 138 5 6, .bk 8 .lss false 7 0, .m 4 8]) .ret)
def x6_ : LF := ⟨2, 9, BU_, [.tmp 4]⟩
theorem CX_ : at_ Tryz.prog Tryz.f189 x6_ := ai_
theorem kp_ (s os : List ByteArray) (hs : ao_ ByteArray.size s ≤ 1048576) (hos : ao_ ByteArray.size os ≤ 1048576) (h : List Row) : aa_ Tryz.prog 189 [.list 0 1 (s.map am_), .list 0 1 (os.map am_)] h (.val (.bool (cf_ (bss s) (bss os)))) := by
 refine aj_ mixed Tryz.func189 CX_ rfl rfl ?_ h
 simp (disch := omega) only [x6_, BU_, go_sem, Nat.reduceEqDiff, reduceCtorEq, ↓reduceIte]
 repeat' (first
  | exact af_ _ _
  | exact ae_ (vZ_ _ _)
  | simp (disch := omega) only [go_sem, ↓reduceIte]
  | (refine aa_.call (eL_ _ _ hs hos _) ?_)
  | (refine aa_.q (eL_ _ _ hs hos _) ?_)
  | ((first | (apply aS_; assumption) | (apply aT_; assumption) | (apply a8_; assumption) | (apply a9_; assumption)); intro hb; try simp only [hb])
  | ((first | (apply aF_; assumption) | (apply aE_; assumption) | (apply aN_; assumption) | (apply aO_; assumption)); intro hb; try simp only [hb])
  | ((first | apply az_ | apply aC_ | apply ak_ | apply an_) <;> intro hb <;> (try simp only [hb]) <;> (first | have hp := aV_ hb | have hp := aU_ hb | have hp := aW_ hb | have hp := aX_ hb | skip)))
def c79 : LC :=
 .seq (.ops [.s 8 (.mov (.const (.bool false)))]) (.seq (.ops [.m 9 0, .m 10 2, .bb 11 .lss false 9 10, .m 12 11, .g 13 12 false (.mov (.tmp 0)), .g 14 12 false (.mov (.tmp 2)), .g 15 12 false (.bin .eql false (.tmp 13)
 (.tmp 14)), .g 16 12 false (.mov (.tmp 15)), .g 17 16 true (.mov (.tmp 1)), .g 18 16 true (.mov (.tmp 3)), .g 19 16 true (.call 119 [.tmp 17, .tmp 18]), .g 20 12 false (.pick (.tmp 16) (.tmp 19) (.const (.bool false))),
 .pt 21 12 20, .m 8 21]) .ret)
def zB_ : LF := ⟨4, 22, c79, [.tmp 8]⟩
theorem Ep_ : at_ Tryz.prog Tryz.f79 zB_ := ai_
theorem iB_ (n : ByteArray) (s : List ByteArray) (o : ByteArray) (os : List ByteArray) (hs : ao_ ByteArray.size s ≤ 1048576) (hos : ao_ ByteArray.size os ≤ 1048576) (h : List Row) :
 aa_ Tryz.prog 79 [.val (.string n), .list 0 1 (s.map am_), .val (.string o), .list 0 1 (os.map am_)] h (.val (.bool (d3_ n.data.toList (bss s) o.data.toList (bss os)))) := by
 refine aj_ mixed Tryz.func79 Ep_ rfl rfl ?_ h
 simp (disch := omega) only [zB_, c79, nh_, go_sem, Nat.reduceEqDiff, reduceCtorEq, ↓reduceIte]
 by_cases hn : n = o
 ·subst hn
  have hL : d3_ n.data.toList (bss s) n.data.toList (bss os) = cf_ (bss s) (bss os) := by unfold d3_; rw [if_pos rfl]
  rw [hL]
  simp (disch := omega) only [eP_, go_sem, Nat.reduceEqDiff, reduceCtorEq, ↓reduceIte]
  refine aa_.call (ha_ _ _ hs hos _) ?_
  simp (disch := omega) only [go_sem, Nat.reduceEqDiff, ↓reduceIte]
  exact af_ _ _
 ·have hn' : (n = o) = False := eq_false hn
  have hL : d3_ n.data.toList (bss s) o.data.toList (bss os) = Op.bytesLess n.data.toList o.data.toList := by unfold d3_; rw [if_neg (fun q => hn (by rwa [mM_] at q))]
  rw [hL]
  cases hb : Op.bytesLess n.data.toList o.data.toList <;> simp (disch := omega) only [hn', go_sem, Nat.reduceEqDiff, reduceCtorEq, ↓reduceIte] <;> exact af_ _ _
def b5_ (a b : ac_) : Bool := d3_ a.Name.data.toList (bss a.Subs) b.Name.data.toList (bss b.Subs)
def dI_ : Option ac_ → List ac_ → Bool
 | _, [] => true
 | p, x :: r => cA_ x && (match p with | some q => b5_ q x | none => true) && dI_ (some x) r
def et_ (ns : List ac_) (k : Nat) : Option ac_ := if 0 < k then ns[k - 1]? else none
theorem mc_ {ns : List ac_} {k : Nat} (h0 : 0 < k) (h : k - 1 < ns.length) : et_ ns k = some ns[k - 1] := by unfold et_; rw [if_pos h0, getElem?_eq_getElem h]
theorem oq_ (ns : List ac_) {k : Nat} (hlt : k < ns.length) : dI_ (et_ ns k) (ns.drop k) = (cA_ ns[k] && (match et_ ns k with | some q => b5_ q ns[k] | none => true) && dI_ (et_ ns (k + 1)) (ns.drop (k + 1))) := by
 rw [drop_eq_getElem_cons hlt, mc_ (Nat.succ_pos k) (by simpa using hlt)]; rfl
def aH_ (x : ad_) : Bool := decide ((x.Nodes.length : Int) ≤ 120) && dI_ none x.Nodes
theorem pP_ (n : List UInt8) (s : List (List UInt8)) (o : List UInt8) (os : List (List UInt8)) : decide (0 ≤ gS_ n s o os) = !d3_ n s o os := by
 have h := p1_ n s o os
 cases hb : d3_ n s o os with
 | true => rw [hb] at h; have := h.2 rfl; simp; omega
 | false =>
  have : ¬ gS_ n s o os < 0 := fun q => by have := h.1 q; rw [hb] at this; cases this
  simp; omega
def c47 : LC :=
 .seq (.ops [.s 1 (.box 30 (.tmp 0)), .s 2 (.mov (.const (.bool false)))]) (.seq (.seq (.ops [.fa 5 0 1, .ln 6 5, .ll 7 6, .bk 8 .gtr false 7 120]) (.cond (.tmp 8) (.seq (.ops [.s 2 (.mov (.const (.bool false)))]) .ret)
 .skip)) (.seq (.seq (.ops [.fa 9 0 1, .ln 10 9, .ll 11 10, .ki 12 0]) (.block 0 (.loop (.seq (.ops [.bb 13 .lss false 12 11]) (.seq (.cond (.tmp 13) .skip (.exit 0)) (.seq (.block 1 (.seq (.ops [.m 14 12, .ia 15 3 10 12,
 .ld 16 3 15, .s 4 (.alloc 112 (.agg #[.string ⟨#[]⟩, .slice none 0 0, .string ⟨#[]⟩])), .m 3 14, .st 3 4 16]) (.seq (.dops [.ld 17 3 4, .c1 18 88 17, .nt 19 18, .m 20 19, .g 21 20 false (.mov (.tmp 3)), .g 22 20 false
 (.bin .gtr false (.tmp 21) (.const (.int .i64 0))), .g 23 20 false (.mov (.tmp 22)), .g 24 23 true (.fieldAddr 0 (.tmp 1)), .g 25 23 true (.load none (.tmp 24)), .g 26 23 true (.mov (.tmp 3)), .g 27 23 true (.bin .sub
 false (.tmp 26) (.const (.int .i64 1))), .g 28 23 true (.indexAddr 3 (.tmp 25) (.tmp 27)), .g 29 23 true (.fieldAddr 0 (.tmp 28)), .g 30 23 true (.load none (.tmp 29)), .g 31 23 true (.fieldAddr 0 (.tmp 1)), .g 32 23
 true (.load none (.tmp 31)), .g 33 23 true (.mov (.tmp 3)), .g 34 23 true (.bin .sub false (.tmp 33) (.const (.int .i64 1))), .g 35 23 true (.indexAddr 3 (.tmp 32) (.tmp 34)), .g 36 23 true (.fieldAddr 1 (.tmp 35)), .g
 37 23 true (.load none (.tmp 36)), .g 38 23 true (.fieldAddr 0 (.tmp 4)), .g 39 23 true (.load none (.tmp 38)), .g 40 23 true (.fieldAddr 1 (.tmp 4)), .g 41 23 true (.load none (.tmp 40)), .g 42 23 true (.call 89 [.tmp
 30, .tmp 37, .tmp 39, .tmp 41]), .g 43 23 true (.bin .geq false (.tmp 42) (.const (.int .i64 0))), .g 44 20 false (.pick (.tmp 23) (.tmp 43) (.const (.bool false))), .pt 45 20 44]) (.cond (.tmp 45) (.seq (.ops [.s 2
 (.mov (.const (.bool false)))]) .ret) .skip)))) (.ops [.bk 46 .add false 12 1, .m 12 46]))))))) (.seq (.ops [.s 2 (.mov (.const (.bool true)))]) .ret)))
def u0_ : LF := ⟨1, 47, c47, [.tmp 2]⟩
theorem Ex_ : at_ Tryz.prog Tryz.f47 u0_ := ai_
def c41 : LC :=
 .seq (.ops [.s 1 (.box 30 (.tmp 0)), .s 2 (.mov (.const (.bool false)))]) (.seq (.seq (.ops [.fa 5 0 1, .ln 6 5, .ll 7 6, .bk 8 .gtr false 7 120]) (.cond (.tmp 8) (.seq (.ops [.s 2 (.mov (.const (.bool false)))]) .ret)
 .skip)) (.seq (.seq (.ops [.ki 3 0]) (.block 0 (.loop (.seq (.seq (.ops [.m 9 3, .fa 10 0 1, .ln 11 10, .ll 12 11, .bb 13 .lss false 9 12]) (.cond (.tmp 13) .skip (.exit 0))) (.seq (.block 1 (.seq (.ops [.fa 16 0 1, .ln
 17 16, .m 18 3, .ia 19 3 17 18, .ld 20 3 19, .s 4 (.alloc 112 (.agg #[.string ⟨#[]⟩, .slice none 0 0, .string ⟨#[]⟩])), .st 3 4 20]) (.seq (.dops [.ld 21 3 4, .c1 22 78 21, .nt 23 22, .m 24 23, .g 25 24 false (.mov (.tmp
 3)), .g 26 24 false (.bin .gtr false (.tmp 25) (.const (.int .i64 0))), .g 27 24 false (.mov (.tmp 26)), .g 28 27 true (.fieldAddr 0 (.tmp 1)), .g 29 27 true (.load none (.tmp 28)), .g 30 27 true (.mov (.tmp 3)), .g 31
 27 true (.bin .sub false (.tmp 30) (.const (.int .i64 1))), .g 32 27 true (.indexAddr 3 (.tmp 29) (.tmp 31)), .g 33 27 true (.fieldAddr 0 (.tmp 32)), .g 34 27 true (.load none (.tmp 33)), .g 35 27 true (.fieldAddr 0
 (.tmp 1)), .g 36 27 true (.load none (.tmp 35)), .g 37 27 true (.mov (.tmp 3)), .g 38 27 true (.bin .sub false (.tmp 37) (.const (.int .i64 1))), .g 39 27 true (.indexAddr 3 (.tmp 36) (.tmp 38)), .g 40 27 true
 (.fieldAddr 1 (.tmp 39)), .g 41 27 true (.load none (.tmp 40)), .g 42 27 true (.fieldAddr 0 (.tmp 4)), .g 43 27 true (.load none (.tmp 42)), .g 44 27 true (.fieldAddr 1 (.tmp 4)), .g 45 27 true (.load none (.tmp 44)), .g
 46 27 true (.call 79 [.tmp 34, .tmp 41, .tmp 43, .tmp 45]), .g 47 27 true (.un .not (.tmp 46)), .g 48 24 false (.pick (.tmp 27) (.tmp 47) (.const (.bool false))), .pt 49 24 48]) (.cond (.tmp 49) (.seq (.ops [.s 2 (.mov
 (.const (.bool false)))]) .ret) .skip)))) (.ops [.m 14 3, .bk 15 .add false 14 1, .m 3 15])))))) (.seq (.ops [.s 2 (.mov (.const (.bool true)))]) .ret)))
def uJ_ : LF := ⟨1, 50, c41, [.tmp 2]⟩
theorem DB_ : at_ Tryz.prog Tryz.f41 uJ_ := ai_
theorem gN_ (x : ad_) (hx : ad_.sz x ≤ 1048576) (h : List Row) : aa_ Tryz.prog 47 [.agg (ad_.cells x)] h (.val (.bool (aH_ x))) := by
 refine aj_ mixed Tryz.func47 Ex_ rfl rfl ?_ h
 have hs := ad_.sz_Nodes hx
 have hl := ax_ hs
 have hm : ∀ n ∈ x.Nodes, ac_.sz n ≤ 1048576 := fun n hn => b6_ hs hn
 by_cases h4 : (x.Nodes.length : Int) ≤ 120
 case neg =>
  have h4' : ((120 : Int) < x.Nodes.length) = True := eq_true (by omega)
  simp (disch := omega) only [u0_, c47, ad_.cells, h4', go_sem, Nat.reduceEqDiff, ↓reduceIte]
  exact ae_ (by simp [aH_, h4])
 have h4' : ((120 : Int) < x.Nodes.length) = False := eq_false (by omega)
 have hT : aH_ x = dI_ none x.Nodes := by unfold aH_; rw [decide_eq_true h4]; rfl
 rw [hT]
 simp (disch := omega) only [u0_, c47, ad_.cells, h4', go_sem, Nat.reduceEqDiff, ↓reduceIte]
 refine aL_ (fun n t h => ∃ k : Nat, t 1 = .ptr 0 1 0 0 ∧ t 10 = .list 0 3 (x.Nodes.map ac_.cells) ∧ t 11 = .val (.int .i64 x.Nodes.length) ∧ t 12 = .val (.int .i64 k) ∧ h[0]? = some ⟨30, 1, [[.list 0 3 (x.Nodes.map ac_.cells)]]⟩ ∧ n = x.Nodes.length - k ∧ k ≤ x.Nodes.length ∧ dI_ none x.Nodes = dI_ (et_ x.Nodes k) (x.Nodes.drop k)) x.Nodes.length ⟨0, rfl, rfl, rfl, rfl, rfl, rfl, Nat.zero_le _, rfl⟩ ?_
 rintro J hJ n t h ⟨k, t1, t10, t11, t12, o0, rfl, hk, hS⟩
 have w0 := fun l => a1_ (l := l) o0
 by_cases hlt : k < x.Nodes.length
 ·rw [oq_ _ hlt] at hS
  have hb := hm _ (getElem_mem hlt)
  have hb1 := ac_.sz_Name hb
  have hb2 := ac_.sz_Subs hb
  simp (disch := omega) only [t10, t11, t12, hlt, ac_.cells, go_sem, Nat.reduceEqDiff, Nat.reduceAdd, ↓reduceIte]
  refine aa_.q (nr_ x.Nodes[k] hb _) ?_
  by_cases q1 : cA_ x.Nodes[k] = true
  case neg =>
   have q1' : cA_ x.Nodes[k] = false := by simpa using q1
   simp (disch := omega) only [q1', go_sem, Nat.reduceEqDiff, ↓reduceIte]
   exact ae_ (by rw [hS, q1']; rfl)
  by_cases hk0 : 0 < k
  ·have hlt1 : k - 1 < x.Nodes.length := by omega
   have hk0' : (0 < (k : Int)) = True := eq_true (by omega)
   have hkp : (k : Int) - 1 = ((k - 1 : Nat) : Int) := by omega
   have hb3 := hm _ (getElem_mem hlt1)
   rw [mc_ hk0 hlt1] at hS
   dsimp only at hS
   simp (disch := omega) only [t1, w0, q1, hk0', hkp, ac_.cells, aq_, go_sem, Nat.reduceEqDiff, Nat.reduceAdd, Nat.reduceLeDiff, ↓reduceIte]
   refine aa_.q (dN_ _ _ _ _ (ac_.sz_Subs hb3) hb2 _) ?_
   by_cases q2 : b5_ x.Nodes[k - 1] x.Nodes[k] = true
   ·have q2n := q2
    unfold b5_ at q2n
    have q2n : (0 ≤ gS_ (x.Nodes[k - 1]).Name.data.toList (bss (x.Nodes[k - 1]).Subs) (x.Nodes[k]).Name.data.toList (bss (x.Nodes[k]).Subs)) = False := eq_false (by have := pP_ (x.Nodes[k - 1]).Name.data.toList (bss (x.Nodes[k - 1]).Subs) (x.Nodes[k]).Name.data.toList (bss (x.Nodes[k]).Subs); rw [q2n] at this; simpa using this)
    simp (disch := omega) only [t12, q2n, go_sem, Nat.reduceEqDiff, ↓reduceIte]
    exact ⟨x.Nodes.length - (k + 1), by omega, hJ _ _ _ ⟨k + 1, by simp [upd, t1], by simp [upd, t10], by simp [upd, t11], by simp [upd], w0 _, rfl, by omega, by rw [hS, q1, q2]; rfl⟩⟩
   ·have q2' : b5_ x.Nodes[k - 1] x.Nodes[k] = false := by simpa using q2
    have q2n := q2'
    unfold b5_ at q2n
    have q2n : (0 ≤ gS_ (x.Nodes[k - 1]).Name.data.toList (bss (x.Nodes[k - 1]).Subs) (x.Nodes[k]).Name.data.toList (bss (x.Nodes[k]).Subs)) = True := eq_true (by have := pP_ (x.Nodes[k - 1]).Name.data.toList (bss (x.Nodes[k - 1]).Subs) (x.Nodes[k]).Name.data.toList (bss (x.Nodes[k]).Subs); rw [q2n] at this; simpa using this)
    simp (disch := omega) only [q2n, go_sem, ↓reduceIte]
    exact ae_ (by rw [hS, q1, q2']; rfl)
  ·have hk0' : (0 < (k : Int)) = False := eq_false (by omega)
   have hp : et_ x.Nodes k = none := by unfold et_; rw [if_neg hk0]
   rw [hp] at hS
   simp (disch := omega) only [t12, q1, hk0', go_sem, Nat.reduceEqDiff, ↓reduceIte]
   exact ⟨x.Nodes.length - (k + 1), by omega, hJ _ _ _ ⟨k + 1, by simp [upd, t1], by simp [upd, t10], by simp [upd, t11], by simp [upd], w0 _, rfl, by omega, by rw [hS, q1]; rfl⟩⟩
 ·simp (disch := omega) only [t11, t12, hlt, go_sem, ↓reduceIte]
  exact ae_ (by rw [hS, drop_eq_nil_of_le (by omega)]; cases et_ x.Nodes k <;> rfl)
theorem cL_ (x : ad_) (hx : ad_.sz x ≤ 1048576) (h : List Row) : aa_ Tryz.prog 41 [.agg (ad_.cells x)] h (.val (.bool (aH_ x))) := by
 refine aj_ mixed Tryz.func41 DB_ rfl rfl ?_ h
 have hs := ad_.sz_Nodes hx
 have hl := ax_ hs
 have hm : ∀ n ∈ x.Nodes, ac_.sz n ≤ 1048576 := fun n hn => b6_ hs hn
 by_cases h4 : (x.Nodes.length : Int) ≤ 120
 case neg =>
  have h4' : ((120 : Int) < x.Nodes.length) = True := eq_true (by omega)
  simp (disch := omega) only [uJ_, c41, ad_.cells, h4', go_sem, Nat.reduceEqDiff, ↓reduceIte]
  exact ae_ (by simp [aH_, h4])
 have h4' : ((120 : Int) < x.Nodes.length) = False := eq_false (by omega)
 have hT : aH_ x = dI_ none x.Nodes := by unfold aH_; rw [decide_eq_true h4]; rfl
 rw [hT]
 simp (disch := omega) only [uJ_, c41, ad_.cells, h4', go_sem, Nat.reduceEqDiff, ↓reduceIte]
 refine aL_ (fun n t h => ∃ k : Nat, t 1 = .ptr 0 1 0 0 ∧ t 3 = .val (.int .i64 k) ∧ h[0]? = some ⟨30, 1, [[.list 0 3 (x.Nodes.map ac_.cells)]]⟩ ∧ n = x.Nodes.length - k ∧ k ≤ x.Nodes.length ∧ dI_ none x.Nodes = dI_ (et_ x.Nodes k) (x.Nodes.drop k)) x.Nodes.length ⟨0, rfl, rfl, rfl, rfl, Nat.zero_le _, rfl⟩ ?_
 rintro J hJ n t h ⟨k, t1, t3, o0, rfl, hk, hS⟩
 have w0 := fun l => a1_ (l := l) o0
 by_cases hlt : k < x.Nodes.length
 ·rw [oq_ _ hlt] at hS
  have hb := hm _ (getElem_mem hlt)
  have hb1 := ac_.sz_Name hb
  have hb2 := ac_.sz_Subs hb
  simp (disch := omega) only [t1, t3, o0, hlt, ac_.cells, go_sem, Nat.reduceEqDiff, Nat.reduceAdd, ↓reduceIte]
  refine aa_.q (mA_ x.Nodes[k] hb _) ?_
  by_cases q1 : cA_ x.Nodes[k] = true
  case neg =>
   have q1' : cA_ x.Nodes[k] = false := by simpa using q1
   simp (disch := omega) only [q1', go_sem, Nat.reduceEqDiff, ↓reduceIte]
   exact ae_ (by rw [hS, q1']; rfl)
  by_cases hk0 : 0 < k
  ·have hlt1 : k - 1 < x.Nodes.length := by omega
   have hk0' : (0 < (k : Int)) = True := eq_true (by omega)
   have hkp : (k : Int) - 1 = ((k - 1 : Nat) : Int) := by omega
   have hb3 := hm _ (getElem_mem hlt1)
   rw [mc_ hk0 hlt1] at hS
   dsimp only at hS
   simp (disch := omega) only [t1, t3, w0, q1, hk0', hkp, ac_.cells, aq_, go_sem, Nat.reduceEqDiff, Nat.reduceAdd, Nat.reduceLeDiff, ↓reduceIte]
   refine aa_.q (iB_ _ _ _ _ (ac_.sz_Subs hb3) hb2 _) ?_
   by_cases q2 : b5_ x.Nodes[k - 1] x.Nodes[k] = true
   ·have q2n := q2
    unfold b5_ at q2n
    skip
    simp (disch := omega) only [t3, q2n, go_sem, Nat.reduceEqDiff, ↓reduceIte]
    exact ⟨x.Nodes.length - (k + 1), by omega, hJ _ _ _ ⟨k + 1, by simp [upd, t1], by simp [upd], w0 _, rfl, by omega, by rw [hS, q1, q2]; rfl⟩⟩
   ·have q2' : b5_ x.Nodes[k - 1] x.Nodes[k] = false := by simpa using q2
    have q2n := q2'
    unfold b5_ at q2n
    skip
    simp (disch := omega) only [q2n, go_sem, ↓reduceIte]
    exact ae_ (by rw [hS, q1, q2']; rfl)
  ·have hk0' : (0 < (k : Int)) = False := eq_false (by omega)
   have hp : et_ x.Nodes k = none := by unfold et_; rw [if_neg hk0]
   rw [hp] at hS
   simp (disch := omega) only [t3, q1, hk0', go_sem, Nat.reduceEqDiff, ↓reduceIte]
   exact ⟨x.Nodes.length - (k + 1), by omega, hJ _ _ _ ⟨k + 1, by simp [upd, t1], by simp [upd], w0 _, rfl, by omega, by rw [hS, q1]; rfl⟩⟩
 ·simp (disch := omega) only [t1, t3, o0, hlt, go_sem, Nat.reduceEqDiff, ↓reduceIte]
  exact ae_ (by rw [hS, drop_eq_nil_of_le (by omega)]; cases et_ x.Nodes k <;> rfl)
theorem v7_ (q : Bool) (n : Nat) : bf_ .shr q (.val (.int .u64 (n : Int))) (.val (.int .u64 1)) = some (.val (.int .u64 ((n / 2 : Nat) : Int))) := by
 have e : bf_ .shr q (.val (.int .u64 (n : Int))) (.val (.int .u64 1)) = some (.val (.int .u64 ((n : Int).fdiv (2 ^ 1)))) := rfl
 rw [e]
 congr 3
 rw [Int.fdiv_eq_ediv_of_nonneg _ (by decide)]
 omega
theorem qA_ {n : Int} (h1 : 0 ≤ n) (h2 : n ≤ 18446744073709551615) : IntKind.u64.wrap n = n := by
 rw [IntKind.wrap_u64]; omega
def AJ_ : LC :=
 .seq (.ops [.s 4 (.box 112 (.tmp 1)), .ki 6 0, .s 7 (.mov (.const (.bool false)))]) (.seq (.ops [.m 12 0, .ll 13 12, .m 8 13]) (.seq (.ops [.m 14 8, .ki 9 0, .m 10 14]) (.seq (.block 0 (.loop (.seq (.seq (.ops [.m 15 9,
 .m 16 10, .bb 17 .lss false 15 16]) (.cond (.tmp 17) .skip (.exit 0))) (.block 1 (.seq (.ops [.m 18 9, .m 19 10, .bb 20 .add false 18 19, .s 21 (.convInt .u64 (.tmp 20)), .s 22 (.bin .shr false (.tmp 21) (.const (.int
 .u64 1))), .s 23 (.convInt .i64 (.tmp 22)), .m 11 23]) (.seq (.dops [.m 24 2, .m 25 0, .m 26 11, .ia 27 3 25 26, .ld 28 3 27, .ld 29 3 4, .s 30 (.callv (.tmp 24) [.tmp 28, .tmp 29]), .bk 31 .lss false 30 0]) (.cond (.tmp
 31) (.ops [.m 32 11, .bk 33 .add false 32 1, .m 9 33]) (.ops [.m 34 11, .m 10 34])))))))) (.seq (.dops [.m 35 9, .m 36 9, .m 37 8, .bb 38 .lss false 36 37, .m 39 38, .g 40 39 true (.mov (.tmp 2)), .g 41 39 true (.mov
 (.tmp 0)), .g 42 39 true (.mov (.tmp 9)), .g 43 39 true (.indexAddr 3 (.tmp 41) (.tmp 42)), .g 44 39 true (.load (some 3) (.tmp 43)), .g 45 39 true (.load (some 3) (.tmp 4)), .g 46 39 true (.callv (.tmp 40) [.tmp 44,
 .tmp 45]), .g 47 39 true (.bin .eql false (.tmp 46) (.const (.int .i64 0))), .pf 48 39 47, .m 6 35, .m 7 48]) .ret))))
def xe_ : LF := ⟨3, 49, AJ_, [.tmp 6, .tmp 7]⟩
theorem zJ_ : at_ Tryz.prog Tryz.f210 xe_ := ai_
theorem fd_ (hs : List ac_) (tg : ac_) (c : ac_ → ac_ → Int) (g m : Nat) (hx : hs.length ≤ 1048576) (hm : m ≤ hs.length) (hpart : ∀ (i : Nat) (h : i < hs.length), (c hs[i] tg < 0 ↔ i < m)) (hc : co_ Tryz.prog g = true)
 (hp : ∀ x ∈ hs, ∀ h, aa_ Tryz.prog g [.agg (ac_.cells x), .agg (ac_.cells tg)] h (.val (.int .i64 (c x tg)))) (fd : Bool) (hfd : fd = if h : m < hs.length then decide (c hs[m] tg = 0) else false) (h : List Row) :
 aa_ Tryz.prog 210 [.list 0 3 (hs.map ac_.cells), .agg (ac_.cells tg), .fn g [] []] h (.tup [.val (.int .i64 m), .val (.bool fd)]) := by
 refine aj_ mixed Tryz.func210 zJ_ rfl rfl ?_ h
 simp only [ac_.cells] at hp
 simp (disch := omega) only [xe_, AJ_, ac_.cells, go_sem, Nat.reduceEqDiff, Nat.reduceAdd, reduceCtorEq, ↓reduceIte]
 refine aL_ (fun n t h => ∃ (i j : Nat), t 0 = .list 0 3 (hs.map ac_.cells) ∧ t 2 = .fn g [] [] ∧ t 4 = .ptr 0 1 0 0 ∧ h[0]? = some ⟨112, 3, [[.val (.string tg.Name), .list 0 1 (tg.Subs.map am_), .val (.string tg.Value)]]⟩ ∧ t 8 = .val (.int .i64 hs.length) ∧ t 9 = .val (.int .i64 i) ∧ t 10 = .val (.int .i64 j) ∧ n = j - i ∧ i ≤ m ∧ m ≤ j ∧ j ≤ hs.length) hs.length ⟨0, hs.length, rfl, rfl, rfl, rfl, rfl, rfl, rfl, rfl, Nat.zero_le _, hm, Nat.le_refl _⟩ ?_
 rintro J hJ n t h ⟨i, j, t0, t2, t4, o0, t8, t9, t10, rfl, him, hmj, hj⟩
 by_cases hij : i < j
 ·have e1 : ((i : Int) + (j : Int)) = ((i + j : Nat) : Int) := by omega
  have hmid : (i + j) / 2 < hs.length := by omega
  have hq := hpart ((i + j) / 2) hmid
  simp (disch := omega) only [t0, t2, t4, o0, t9, t10, hij, e1, qA_, v7_, hc, ac_.cells, go_sem, Nat.reduceEqDiff, Nat.reduceAdd, reduceCtorEq, ↓reduceIte]
  first | refine aa_.q (hp hs[(i + j) / 2] (getElem_mem hmid) _) ?_ | refine aa_.call (hp hs[(i + j) / 2] (getElem_mem hmid) _) ?_
  by_cases hl : c hs[(i + j) / 2] tg < 0
  ·simp (disch := omega) only [hl, go_sem, Nat.reduceEqDiff, ↓reduceIte]
   exact ⟨j - ((i + j) / 2 + 1), by omega, hJ _ _ _ ⟨(i + j) / 2 + 1, j, by simp [upd, t0], by simp [upd, t2], by simp [upd, t4], o0, by simp [upd, t8], by simp [upd], by simp [upd, t10], rfl, by have := hq.1 hl; omega, hmj, hj⟩⟩
  ·have hnm : ¬ ((i + j) / 2 < m) := fun q => hl (hq.2 q)
   simp (disch := omega) only [hl, go_sem, Nat.reduceEqDiff, ↓reduceIte]
   exact ⟨(i + j) / 2 - i, by omega, hJ _ _ _ ⟨i, (i + j) / 2, by simp [upd, t0], by simp [upd, t2], by simp [upd, t4], o0, by simp [upd, t8], by simp [upd, t9], by simp [upd], rfl, him, by omega, by omega⟩⟩
 ·have him' : i = m := by omega
  by_cases hml : m < hs.length
  ·have hil : i < hs.length := by omega
   subst him'
   rw [dif_pos hml] at hfd
   simp (disch := omega) only [t0, t2, t4, o0, t8, t9, t10, hij, hil, hc, ac_.cells, go_sem, Nat.reduceEqDiff, Nat.reduceAdd, reduceCtorEq, ↓reduceIte]
   first | refine aa_.q (hp hs[i] (getElem_mem hil) _) ?_ | refine aa_.call (hp hs[i] (getElem_mem hil) _) ?_
   simp (disch := omega) only [go_sem]
   rw [hfd]
   exact df_ _ _ rfl
  ·have hil : ¬ i < hs.length := by omega
   subst him'
   rw [dif_neg hml] at hfd
   simp (disch := omega) only [t8, t9, t10, hij, hil, go_sem, Nat.reduceEqDiff, ↓reduceIte]
   rw [hfd]
   exact df_ _ _ rfl
theorem gk_ {a b c : ac_} (h1 : b5_ a b = true) (h2 : b5_ b c = true) : b5_ a c = true := qT_ h1 h2
theorem fS_ : ∀ (r : List ac_) (p : Option ac_), dI_ p r = true → r.Pairwise (fun a b => b5_ a b = true) ∧ (∀ q, p = some q → ∀ x ∈ r, b5_ q x = true) ∧ ∀ x ∈ r, cA_ x = true
 | [], p, _ => ⟨List.Pairwise.nil, fun _ _ x hx => by simp at hx, fun x hx => by simp at hx⟩
 | a :: r, p, h => by
  simp only [dI_, Bool.and_eq_true] at h
  obtain ⟨h1, h2, h3⟩ := fS_ r (some a) h.2
  refine ⟨pairwise_cons.2 ⟨h2 a rfl, h1⟩, ?_, ?_⟩
  ·rintro q rfl x hx
   rcases mem_cons.1 hx with e | e
   ·subst e; exact h.1.2
   ·exact gk_ h.1.2 (h2 a rfl x e)
  ·intro x hx
   rcases mem_cons.1 hx with e | e
   ·subst e; exact h.1.1
   ·exact h3 x e
theorem fC_ {x : ad_} (h : aH_ x = true) : x.Nodes.Pairwise (fun a b => b5_ a b = true) := by
 simp only [aH_, Bool.and_eq_true] at h
 exact (fS_ _ _ h.2).1
theorem mT_ {x : ad_} (h : aH_ x = true) : ∀ n ∈ x.Nodes, cA_ n = true := by
 simp only [aH_, Bool.and_eq_true] at h
 exact (fS_ _ _ h.2).2.2
def fw_ (n : ByteArray) (s : List ByteArray) (a : ac_) : Bool := b5_ a ⟨n, s, txt []⟩
def bk_ (ns : List ac_) (n : ByteArray) (s : List ByteArray) : Nat := (ns.takeWhile (fw_ n s)).length
theorem lg_ (ns : List ac_) (n : ByteArray) (s : List ByteArray) : bk_ ns n s ≤ ns.length := by
 unfold bk_
 exact List.Sublist.length_le (takeWhile_sublist _)
theorem jh_ {α : Type} (p : α → Bool) : ∀ (l : List α) (hmono : ∀ (i j : Nat) (hi : i < l.length) (hj : j < l.length), i ≤ j → p l[j] = true → p l[i] = true) (i : Nat) (h : i < l.length), p l[i] = true ↔ i < (l.takeWhile p).length
 | [], _, i, h => by simp at h
 | a :: l, hm, i, h => by
  by_cases q : p a = true
  ·rw [takeWhile_cons_of_pos q]
   cases i with
   | zero => simp [q]
   | succ i =>
    simp only [getElem_cons_succ, lc_, Nat.add_lt_add_iff_right]
    exact jh_ p l (fun a b ha hb hab hp => hm (a + 1) (b + 1) (by simpa using ha) (by simpa using hb) (by omega) hp) i (by simpa using h)
  ·rw [takeWhile_cons_of_neg q]
   simp only [ln_, Nat.not_lt_zero, iff_false]
   intro hp
   exact q (hm 0 i (by simp) h (Nat.zero_le _) hp)
theorem kU_ {x : ad_} (h : aH_ x = true) (n : ByteArray) (s : List ByteArray) (i : Nat) (hi : i < x.Nodes.length) : fw_ n s x.Nodes[i] = true ↔ i < bk_ x.Nodes n s := by
 refine jh_ (fw_ n s) x.Nodes (fun a b ha hb hab hp => ?_) i hi
 rcases Nat.lt_or_eq_of_le hab with q | q
 ·exact gk_ (pairwise_iff_getElem.1 (fC_ h) a b ha hb q) hp
 ·subst q; exact hp
def fu_ (n : ByteArray) (s : List ByteArray) (a : ac_) : Bool := decide (a.Name = n) && bm_ a.Subs s
def bu_ (ns : List ac_) (n : ByteArray) (s : List ByteArray) : Bool := match ns[bk_ ns n s]? with | some a => fu_ n s a | none => false
theorem jz_ : ∀ xs ys : List ByteArray, bm_ xs ys = true ↔ xs = ys
 | [], [] => by simp [bm_, eT_]
 | [], _ :: _ => by simp [bm_, eT_]
 | _ :: _, [] => by simp [bm_, eT_]
 | x :: xs, y :: ys => by
  have := jz_ xs ys
  simp only [bm_, eT_, Bool.and_eq_true, eqS, decide_eq_true_eq, List.cons.injEq] at this ⊢
  rw [this]
theorem p9_ (n : ByteArray) (s : List ByteArray) (a : ac_) : decide (gS_ a.Name.data.toList (bss a.Subs) n.data.toList (bss s) = 0) = fu_ n s a := by
 rw [Bool.eq_iff_iff, decide_eq_true_eq, tU_, mM_, rl_]
 simp [fu_, jz_]
theorem tn_ (n : ByteArray) (s : List ByteArray) (a : ac_) : gS_ a.Name.data.toList (bss a.Subs) n.data.toList (bss s) < 0 ↔ fw_ n s a = true := p1_ _ _ _ _
def B8_ : LC :=
 .seq (.ops [.s 2 (.box 112 (.tmp 0)), .s 3 (.box 112 (.tmp 1)), .ki 4 0]) (.seq (.ops [.fa 5 0 2, .ln 6 5, .fa 7 1 2, .ln 8 7, .fa 9 0 3, .ln 10 9, .fa 11 1 3, .ln 12 11, .s 13 (.call 89 [.tmp 6, .tmp 8, .tmp 10, .tmp
 12]), .m 4 13]) .ret)
def wI_ : LF := ⟨2, 14, B8_, [.tmp 4]⟩
theorem zH_ : at_ Tryz.prog Tryz.f211 wI_ := ai_
theorem jj_ (x y : ac_) (hx : ao_ ByteArray.size x.Subs ≤ 1048576) (hy : ao_ ByteArray.size y.Subs ≤ 1048576) (h : List Row) : aa_ Tryz.prog 211 [.agg (ac_.cells x), .agg (ac_.cells y)] h (.val (.int .i64 (gS_ x.Name.data.toList (bss x.Subs) y.Name.data.toList (bss y.Subs)))) := by
 refine aj_ mixed Tryz.func211 zH_ rfl rfl ?_ h
 simp (disch := omega) only [wI_, B8_, ac_.cells, go_sem, Nat.reduceEqDiff, Nat.reduceAdd, ↓reduceIte]
 repeat' (first
  | exact af_ _ _
  | simp (disch := omega) only [go_sem, ↓reduceIte]
  | (refine aa_.call (dN_ _ _ _ _ hx hy _) ?_)
  | (refine aa_.q (dN_ _ _ _ _ hx hy _) ?_)
  | ((first | (apply aF_; assumption) | (apply aE_; assumption) | (apply aN_; assumption) | (apply aO_; assumption)); intro hb; try simp only [hb])
  | ((first | apply ak_ | apply an_) <;> intro hb <;> (try simp only [hb]) <;> (first | have hp := aV_ hb | have hp := aU_ hb | have hp := aW_ hb | have hp := aX_ hb | skip)))
def CQ_ : LC :=
 .seq (.ops [.s 3 (.box 30 (.tmp 0)), .ki 6 0, .s 7 (.mov (.const (.bool false)))]) (.seq (.ops [.fa 8 0 3, .ln 9 8, .m 10 1, .m 11 2, .s 12 (.build (.agg #[.string ⟨#[]⟩, .slice none 0 0, .string ⟨#[]⟩]) [(0, 1), (1, 1),
 (2, 1)] [(0, .tmp 10), (1, .tmp 11)]), .s 13 (.call 210 [.tmp 9, .tmp 12, .func 211]), .ex 14 13 0, .ex 15 13 1, .m 6 14, .m 7 15]) .ret)
def wA_ : LF := ⟨3, 16, CQ_, [.tmp 6, .tmp 7]⟩
theorem AZ_ : at_ Tryz.prog Tryz.f183 wA_ := ai_
theorem hd_ (x : ad_) (n : ByteArray) (s : List ByteArray) (hx : ad_.sz x ≤ 1048576) (hs : ao_ ByteArray.size s ≤ 1048576) (ht : aH_ x = true) (h : List Row) : aa_ Tryz.prog 183 [.agg (ad_.cells x), .val (.string n), .list 0 1 (s.map am_)] h (.tup [.val (.int .i64 (bk_ x.Nodes n s)), .val (.bool (bu_ x.Nodes n s))]) := by
 refine aj_ mixed Tryz.func183 AZ_ rfl rfl ?_ h
 have hz := ad_.sz_Nodes hx
 have hm : ∀ a ∈ x.Nodes, ac_.sz a ≤ 1048576 := fun a ha => b6_ hz ha
 have hb : ∀ H, aa_ Tryz.prog 210 [.list 0 3 (x.Nodes.map ac_.cells), .agg [.val (.string n), .list 0 1 (s.map am_), .val (.string (txt []))], .fn 211 [] []] H (.tup [.val (.int .i64 (bk_ x.Nodes n s)), .val (.bool (bu_ x.Nodes n s))]) := fun H =>
  fd_ x.Nodes ⟨n, s, txt []⟩ (fun a b => gS_ a.Name.data.toList (bss a.Subs) b.Name.data.toList (bss b.Subs)) 211 (bk_ x.Nodes n s) (ax_ hz) (lg_ _ _ _) (fun i hi => (tn_ n s _).trans (kU_ ht n s i hi)) (by kernel_rfl) (fun a ha h => jj_ a ⟨n, s, txt []⟩ (ac_.sz_Subs (hm a ha)) hs h) (bu_ x.Nodes n s) (by
   unfold bu_
   by_cases hp : bk_ x.Nodes n s < x.Nodes.length
   ·rw [dif_pos hp, getElem?_eq_getElem hp]; exact (p9_ n s _).symm
   ·rw [dif_neg hp, getElem?_eq_none (by omega)]) H
 simp (disch := omega) only [wA_, CQ_, ad_.cells, bH_, Option.map_some, go_sem, Nat.reduceEqDiff, Nat.reduceAdd, Nat.reduceLeDiff, ↓reduceIte]
 refine aa_.call (hb _) ?_
 simp (disch := omega) only [go_sem, Nat.reduceEqDiff, ↓reduceIte]
 exact df_ _ _ rfl
def uL_ : LC :=
 .seq (.ops [.s 4 (.mov (.const (.bool false)))]) (.seq (.seq (.ops [.m 6 0, .ll 7 6, .m 8 1, .ll 9 8, .bb 10 .neq false 7 9]) (.cond (.tmp 10) (.seq (.ops [.s 4 (.mov (.const (.bool false)))]) .ret) .skip)) (.seq (.seq
 (.ops [.ki 5 0]) (.block 0 (.loop (.seq (.seq (.ops [.m 11 5, .m 12 0, .ll 13 12, .bb 14 .lss false 11 13]) (.cond (.tmp 14) .skip (.exit 0))) (.seq (.block 1 (.seq (.dops [.m 17 0, .m 18 5, .ia 19 1 17 18, .ln 20 19, .m
 21 1, .m 22 5, .ia 23 1 21 22, .ln 24 23, .bb 25 .neq false 20 24]) (.cond (.tmp 25) (.seq (.ops [.s 4 (.mov (.const (.bool false)))]) .ret) .skip))) (.ops [.m 15 5, .bk 16 .add false 15 1, .m 5 16])))))) (.seq (.ops [.s
 4 (.mov (.const (.bool true)))]) .ret)))
def r2_ : LF := ⟨2, 26, uL_, [.tmp 4]⟩
theorem C3_ : at_ Tryz.prog Tryz.f192 r2_ := ai_
theorem iK_ (xs ys : List ByteArray) (hx : xs.length ≤ 1048576) (h : List Row) : aa_ Tryz.prog 192 [.list 0 1 (xs.map am_), .list 0 1 (ys.map am_)] h (.val (.bool (bm_ xs ys))) := by
 refine aj_ mixed Tryz.func192 C3_ rfl rfl ?_ h
 by_cases hl : xs.length = ys.length
 case neg =>
  have hl' : ((xs.length : Int) = (ys.length : Int)) = False := eq_false (by omega)
  simp (disch := omega) only [r2_, uL_, hl', go_sem, Nat.reduceEqDiff, reduceCtorEq, ↓reduceIte]
  exact ae_ (by rw [bm_, g2_ _ _ _ hl])
 have hl' : ((xs.length : Int) = (ys.length : Int)) = True := eq_true (by omega)
 simp (disch := omega) only [r2_, uL_, hl', go_sem, Nat.reduceEqDiff, reduceCtorEq, ↓reduceIte]
 refine aL_ (fun n t h => ∃ k : Nat, t 0 = .list 0 1 (xs.map am_) ∧ t 1 = .list 0 1 (ys.map am_) ∧ t 5 = .val (.int .i64 k) ∧ n = xs.length - k ∧ k ≤ xs.length ∧ bm_ xs ys = eT_ eqS (xs.drop k) (ys.drop k)) xs.length ⟨0, rfl, rfl, rfl, rfl, Nat.zero_le _, rfl⟩ ?_
 rintro J hJ n t h ⟨k, t0, t1, t5, rfl, hk, hS⟩
 by_cases hlt : k < xs.length
 ·have hlt2 : k < ys.length := by omega
  rw [km_ eqS xs ys k hlt hlt2] at hS
  by_cases e : xs[k] = ys[k]
  ·have e' : (xs[k] = ys[k]) = True := eq_true e
   simp (disch := omega) only [t0, t1, t5, hlt, e', am_, go_sem, Nat.reduceEqDiff, reduceCtorEq, ↓reduceIte]
   exact ⟨xs.length - (k + 1), by omega, hJ _ _ _ ⟨k + 1, by simp [upd, t0], by simp [upd, t1], by simp [upd], rfl, by omega, by rw [hS]; simp [eqS, e]⟩⟩
  ·have e' : (xs[k] = ys[k]) = False := eq_false e
   simp (disch := omega) only [t0, t1, t5, hlt, e', am_, go_sem, Nat.reduceEqDiff, reduceCtorEq, ↓reduceIte]
   exact ae_ (by rw [hS]; simp [eqS, e])
 ·simp (disch := omega) only [t0, t5, hlt, go_sem, Nat.reduceEqDiff, reduceCtorEq, ↓reduceIte]
  exact ae_ (by rw [hS, lY_ _ _ _ _ (by omega) (by omega)])
def A3_ : LC :=
 .seq (.ops [.s 4 (.mov (.const (.bool false)))]) (.seq (.ops [.m 5 0, .m 6 1, .c2 7 192 5 6, .m 4 7]) .ret)
def x4_ : LF := ⟨2, 8, A3_, [.tmp 4]⟩
theorem AC_ : at_ Tryz.prog Tryz.f156 x4_ := ai_
theorem hR_ (xs ys : List ByteArray) (hx : xs.length ≤ 1048576) (h : List Row) : aa_ Tryz.prog 156 [.list 0 1 (xs.map am_), .list 0 1 (ys.map am_)] h (.val (.bool (bm_ xs ys))) := by
 refine aj_ mixed Tryz.func156 AC_ rfl rfl ?_ h
 simp (disch := omega) only [x4_, A3_, go_sem, Nat.reduceEqDiff, reduceCtorEq, ↓reduceIte]
 repeat' (first
  | exact af_ _ _
  | simp (disch := omega) only [go_sem, ↓reduceIte]
  | (refine aa_.call (iK_ _ _ hx _) ?_)
  | (refine aa_.q (iK_ _ _ hx _) ?_)
  | ((first | (apply aS_; assumption) | (apply aT_; assumption) | (apply a8_; assumption) | (apply a9_; assumption)); intro hb; try simp only [hb])
  | ((first | (apply aF_; assumption) | (apply aE_; assumption) | (apply aN_; assumption) | (apply aO_; assumption)); intro hb; try simp only [hb])
  | ((first | apply az_ | apply aC_ | apply ak_ | apply an_) <;> intro hb <;> (try simp only [hb]) <;> (first | have hp := aV_ hb | have hp := aU_ hb | have hp := aW_ hb | have hp := aX_ hb | skip)))
def vJ_ : LC :=
 .seq (.ops [.s 4 (.mov (.const (.bool false)))]) (.seq (.ops [.m 5 0, .ll 6 5, .m 7 1, .ll 8 7, .bb 9 .geq false 6 8, .m 10 9, .g 11 10 true (.mov (.tmp 0)), .g 12 10 true (.mov (.tmp 1)), .g 13 10 true (.lenSl (.tmp
 12)), .g 14 10 true (.sliceSl 1 (.tmp 11) none (some (.tmp 13))), .g 15 10 true (.mov (.tmp 1)), .g 16 10 true (.call 156 [.tmp 14, .tmp 15]), .pf 17 10 16, .m 4 17]) .ret)
def r9_ : LF := ⟨2, 18, vJ_, [.tmp 4]⟩
theorem zm_ : at_ Tryz.prog Tryz.f199 r9_ := ai_
theorem fz_ (a b : List ByteArray) (ha : a.length ≤ 1048576) (h : List Row) : aa_ Tryz.prog 199 [.list 0 1 (a.map am_), .list 0 1 (b.map am_)] h (.val (.bool (cW_ b a))) := by
 refine aj_ mixed Tryz.func199 zm_ rfl rfl ?_ h
 by_cases hl : b.length ≤ a.length
 ·have hl' : ((b.length : Int) ≤ (a.length : Int)) := by omega
  simp (disch := omega) only [r9_, vJ_, hl', hl, bG_, fh_, go_sem, Nat.reduceEqDiff, reduceCtorEq, ↓reduceIte]
  refine aa_.call (hR_ (a.take b.length) b (by rw [length_take]; omega) _) ?_
  simp (disch := omega) only [go_sem, Nat.reduceEqDiff, ↓reduceIte]
  exact ae_ (by simp only [cW_, hl, bm_, decide_true, Bool.true_and]; exact il_ _ mk_ _ _)
 ·have hl' : ¬ ((b.length : Int) ≤ (a.length : Int)) := by omega
  simp (disch := omega) only [r9_, vJ_, hl', go_sem, Nat.reduceEqDiff, reduceCtorEq, ↓reduceIte]
  exact ae_ (by simp [cW_, hl])
def inN (n : ByteArray) (s : List ByteArray) (a : ac_) : Bool := decide (a.Name = n) && cW_ s a.Subs
def BH_ : LC :=
 .seq (.ops [.s 3 (.box 112 (.tmp 0)), .s 6 (.mov (.const (.bool false)))]) (.seq (.ops [.fa 7 0 3, .ln 8 7, .m 9 1, .bb 10 .eql false 8 9, .m 11 10, .g 12 11 true (.fieldAddr 1 (.tmp 3)), .g 13 11 true (.load none (.tmp
 12)), .g 14 11 true (.mov (.tmp 2)), .g 15 11 true (.call 215 [.tmp 13, .tmp 14]), .pf 16 11 15, .m 6 16]) .ret)
def wh_ : LF := ⟨3, 17, BH_, [.tmp 6]⟩
theorem zt_ : at_ Tryz.prog Tryz.f187 wh_ := ai_
theorem fJ_ (a : ac_) (n : ByteArray) (s : List ByteArray) (ha : ac_.sz a ≤ 1048576) (h : List Row) : aa_ Tryz.prog 187 [.agg (ac_.cells a), .val (.string n), .list 0 1 (s.map am_)] h (.val (.bool (inN n s a))) := by
 refine aj_ mixed Tryz.func187 zt_ rfl rfl ?_ h
 simp (disch := omega) only [wh_, BH_, ac_.cells, go_sem, Nat.reduceEqDiff, Nat.reduceAdd, ↓reduceIte]
 repeat' (first
  | exact af_ _ _
  | (refine ae_ ?_; first | rfl | (simp only [inN, *, Bool.true_and, Bool.false_and]; done) | (simp [inN, *]; done))
  | simp (disch := omega) only [go_sem, Nat.reduceEqDiff, ↓reduceIte]
  | (refine aa_.call (i5_ _ _ (ax_ (ac_.sz_Subs ha)) _) ?_)
  | (refine aa_.q (i5_ _ _ (ax_ (ac_.sz_Subs ha)) _) ?_)
  | ((first | (apply aS_; assumption) | (apply aT_; assumption) | (apply a8_; assumption) | (apply a9_; assumption)); intro hb; try simp only [hb])
  | ((first | (apply aF_; assumption) | (apply aE_; assumption) | (apply aN_; assumption) | (apply aO_; assumption)); intro hb; try simp only [hb])
  | ((first | apply az_ | apply aC_ | apply ak_ | apply an_) <;> intro hb <;> (try simp only [hb]) <;> (first | have hp := aV_ hb | have hp := aU_ hb | have hp := aW_ hb | have hp := aX_ hb | skip)))
def BN_ : LC :=
 .seq (.ops [.s 3 (.box 112 (.tmp 0)), .s 6 (.mov (.const (.bool false)))]) (.seq (.ops [.fa 7 0 3, .ln 8 7, .m 9 1, .bb 10 .eql false 8 9, .m 11 10, .g 12 11 true (.fieldAddr 1 (.tmp 3)), .g 13 11 true (.load none (.tmp
 12)), .g 14 11 true (.mov (.tmp 2)), .g 15 11 true (.call 199 [.tmp 13, .tmp 14]), .pf 16 11 15, .m 6 16]) .ret)
def xq_ : LF := ⟨3, 17, BN_, [.tmp 6]⟩
theorem Cd_ : at_ Tryz.prog Tryz.f198 xq_ := ai_
theorem ka_ (a : ac_) (n : ByteArray) (s : List ByteArray) (ha : ac_.sz a ≤ 1048576) (h : List Row) : aa_ Tryz.prog 198 [.agg (ac_.cells a), .val (.string n), .list 0 1 (s.map am_)] h (.val (.bool (inN n s a))) := by
 refine aj_ mixed Tryz.func198 Cd_ rfl rfl ?_ h
 simp (disch := omega) only [xq_, BN_, ac_.cells, go_sem, Nat.reduceEqDiff, Nat.reduceAdd, ↓reduceIte]
 repeat' (first
  | exact af_ _ _
  | (refine ae_ ?_; first | rfl | (simp only [inN, *, Bool.true_and, Bool.false_and]; done) | (simp [inN, *]; done))
  | simp (disch := omega) only [go_sem, Nat.reduceEqDiff, ↓reduceIte]
  | (refine aa_.call (fz_ _ _ (ax_ (ac_.sz_Subs ha)) _) ?_)
  | (refine aa_.q (fz_ _ _ (ax_ (ac_.sz_Subs ha)) _) ?_)
  | ((first | (apply aS_; assumption) | (apply aT_; assumption) | (apply a8_; assumption) | (apply a9_; assumption)); intro hb; try simp only [hb])
  | ((first | (apply aF_; assumption) | (apply aE_; assumption) | (apply aN_; assumption) | (apply aO_; assumption)); intro hb; try simp only [hb])
  | ((first | apply az_ | apply aC_ | apply ak_ | apply an_) <;> intro hb <;> (try simp only [hb]) <;> (first | have hp := aV_ hb | have hp := aU_ hb | have hp := aW_ hb | have hp := aX_ hb | skip)))
def fb_ (x : ad_) (n : ByteArray) (s : List ByteArray) : ByteArray × Bool := match x.Nodes[bk_ x.Nodes n s]? with | some a => if fu_ n s a = true then (a.Value, true) else (txt [], false) | none => (txt [], false)
theorem pf_ {x : ad_} {n : ByteArray} {s : List ByteArray} (h : bu_ x.Nodes n s = true) : ∃ hp : bk_ x.Nodes n s < x.Nodes.length, fb_ x n s = (x.Nodes[bk_ x.Nodes n s].Value, true) := by
 unfold bu_ at h
 split at h
 ·rename_i a e
  obtain ⟨hp, e'⟩ := List.getElem?_eq_some_iff.1 e
  refine ⟨hp, ?_⟩
  unfold fb_; (try rw [e]); simp only [h, if_true]; rw [e']
 ·cases h
theorem ro_ {x : ad_} {n : ByteArray} {s : List ByteArray} (h : bu_ x.Nodes n s = false) : fb_ x n s = (txt [], false) := by
 unfold bu_ at h
 unfold fb_
 split at h
 ·rename_i a e; (try rw [e]); simp [h]
 ·rename_i e; first | rw [e] | rfl
abbrev li_ (p : ByteArray × Bool) : AV := .tup [.val (.string p.1), .val (.bool p.2)]
def Ar_ : LC :=
 .seq (.ops [.s 3 (.box 30 (.tmp 0)), .s 6 (.mov (.const (.string ⟨#[]⟩))), .s 7 (.mov (.const (.bool false)))]) (.seq (.ops [.ld 11 1 3, .m 12 1, .m 13 2, .c3 14 183 11 12 13, .m 10 14, .ex 15 10 0, .ex 16 10 1, .m 8 15,
 .m 9 16]) (.seq (.seq (.ops [.m 17 9, .nt 18 17]) (.cond (.tmp 18) (.seq (.ops [.s 6 (.mov (.const (.string ⟨#[]⟩))), .s 7 (.mov (.const (.bool false)))]) .ret) .skip)) (.seq (.ops [.fa 19 0 3, .ln 20 19, .m 21 8, .ia 22
 3 20 21, .fa 23 2 22, .ln 24 23, .m 6 24, .s 7 (.mov (.const (.bool true)))]) .ret)))
def xp_ : LF := ⟨3, 25, Ar_, [.tmp 6, .tmp 7]⟩
theorem y9_ : at_ Tryz.prog Tryz.f149 xp_ := ai_
theorem l5_ (x : ad_) (n : ByteArray) (s : List ByteArray) (hx : ad_.sz x ≤ 1048576) (hs : ao_ ByteArray.size s ≤ 1048576) (ht : aH_ x = true) (h : List Row) : aa_ Tryz.prog 149 [.agg (ad_.cells x), .val (.string n), .list 0 1 (s.map am_)] h (li_ (fb_ x n s)) := by
 refine aj_ mixed Tryz.func149 y9_ rfl rfl ?_ h
 have hp : ∀ H, aa_ Tryz.prog 183 [.agg [.list 0 3 (x.Nodes.map ac_.cells)], .val (.string n), .list 0 1 (s.map am_)] H (.tup [.val (.int .i64 (bk_ x.Nodes n s)), .val (.bool (bu_ x.Nodes n s))]) := fun H => hd_ x n s hx hs ht H
 simp (disch := omega) only [xp_, Ar_, ad_.cells, go_sem, Nat.reduceEqDiff, ↓reduceIte]
 refine aa_.call (hp _) ?_
 by_cases q : bu_ x.Nodes n s = true
 ·obtain ⟨hlt, e⟩ := pf_ q
  simp (disch := omega) only [q, ac_.cells, go_sem, Nat.reduceEqDiff, Nat.reduceAdd, Nat.reduceLeDiff, ↓reduceIte]
  rw [e]; exact df_ _ _ rfl
 ·have q' : bu_ x.Nodes n s = false := by simpa using q
  simp (disch := omega) only [q', go_sem, Nat.reduceEqDiff, ↓reduceIte]
  rw [ro_ q']; exact df_ _ _ rfl
def Bj_ : LC :=
 .seq (.ops [.s 3 (.box 30 (.tmp 0)), .ki 6 0, .s 7 (.mov (.const (.bool false)))]) (.seq (.ops [.ki 8 0]) (.seq (.block 0 (.loop (.seq (.seq (.dops [.m 9 8, .fa 10 0 3, .ln 11 10, .ll 12 11, .bb 13 .lss false 9 12, .m 14
 13, .g 15 14 true (.fieldAddr 0 (.tmp 3)), .g 16 14 true (.load none (.tmp 15)), .g 17 14 true (.mov (.tmp 8)), .g 18 14 true (.indexAddr 3 (.tmp 16) (.tmp 17)), .g 19 14 true (.fieldAddr 0 (.tmp 18)), .g 20 14 true
 (.load none (.tmp 19)), .g 21 14 true (.fieldAddr 0 (.tmp 3)), .g 22 14 true (.load none (.tmp 21)), .g 23 14 true (.mov (.tmp 8)), .g 24 14 true (.indexAddr 3 (.tmp 22) (.tmp 23)), .g 25 14 true (.fieldAddr 1 (.tmp
 24)), .g 26 14 true (.load none (.tmp 25)), .g 27 14 true (.mov (.tmp 1)), .g 28 14 true (.mov (.tmp 2)), .g 29 14 true (.call 79 [.tmp 20, .tmp 26, .tmp 27, .tmp 28]), .pf 30 14 29]) (.cond (.tmp 30) .skip (.exit 0)))
 (.block 1 (.ops [.m 31 8, .bk 32 .add false 31 1, .m 8 32]))))) (.seq (.ops [.m 33 8, .m 34 8, .fa 35 0 3, .ln 36 35, .ll 37 36, .bb 38 .lss false 34 37, .m 39 38, .g 40 39 true (.fieldAddr 0 (.tmp 3)), .g 41 39 true
 (.load none (.tmp 40)), .g 42 39 true (.mov (.tmp 8)), .g 43 39 true (.indexAddr 3 (.tmp 41) (.tmp 42)), .g 44 39 true (.fieldAddr 0 (.tmp 43)), .g 45 39 true (.load none (.tmp 44)), .g 46 39 true (.mov (.tmp 1)), .g 47
 39 true (.bin .eql false (.tmp 45) (.tmp 46)), .pf 48 39 47, .m 49 48, .g 50 49 true (.fieldAddr 0 (.tmp 3)), .g 51 49 true (.load none (.tmp 50)), .g 52 49 true (.mov (.tmp 8)), .g 53 49 true (.indexAddr 3 (.tmp 51)
 (.tmp 52)), .g 54 49 true (.fieldAddr 1 (.tmp 53)), .g 55 49 true (.load none (.tmp 54)), .g 56 49 true (.mov (.tmp 2)), .g 57 49 true (.call 156 [.tmp 55, .tmp 56]), .pf 58 49 57, .m 6 33, .m 7 58]) .ret)))
def xi_ : LF := ⟨3, 59, Bj_, [.tmp 6, .tmp 7]⟩
theorem Dd_ : at_ Tryz.prog Tryz.f165 xi_ := ai_
theorem kd_ (x : ad_) (n : ByteArray) (s : List ByteArray) (hx : ad_.sz x ≤ 1048576) (hs : ao_ ByteArray.size s ≤ 1048576) (h : List Row) : aa_ Tryz.prog 165 [.agg (ad_.cells x), .val (.string n), .list 0 1 (s.map am_)] h (.tup [.val (.int .i64 (bk_ x.Nodes n s)), .val (.bool (bu_ x.Nodes n s))]) := by
 refine aj_ mixed Tryz.func165 Dd_ rfl rfl ?_ h
 have hz := ad_.sz_Nodes hx
 have hl := ax_ hz
 have hm : ∀ a ∈ x.Nodes, ac_.sz a ≤ 1048576 := fun a ha => b6_ hz ha
 simp (disch := omega) only [xi_, Bj_, ad_.cells, go_sem, ↓reduceIte]
 refine aL_ (fun m t h => ∃ k : Nat, t 3 = .ptr 0 1 0 0 ∧ t 1 = .val (.string n) ∧ t 2 = .list 0 1 (s.map am_) ∧ t 8 = .val (.int .i64 k) ∧ h[0]? = some ⟨30, 1, [[.list 0 3 (x.Nodes.map ac_.cells)]]⟩ ∧ m = x.Nodes.length - k ∧ k ≤ x.Nodes.length ∧ bk_ x.Nodes n s = k + ((x.Nodes.drop k).takeWhile (fw_ n s)).length) x.Nodes.length ⟨0, rfl, rfl, rfl, rfl, rfl, rfl, Nat.zero_le _, by simp [bk_]⟩ ?_
 rintro J hJ m t h ⟨k, t3, t1, t2, t8, o0, rfl, hk, hS⟩
 by_cases hlt : k < x.Nodes.length
 ·rw [drop_eq_getElem_cons hlt] at hS
  have hb := hm _ (getElem_mem hlt)
  simp (disch := omega) only [t3, t1, t2, t8, o0, hlt, ac_.cells, go_sem, Nat.reduceEqDiff, Nat.reduceAdd, Nat.reduceLeDiff, ↓reduceIte]
  refine aa_.q (iB_ _ _ _ _ (ac_.sz_Subs hb) hs _) ?_
  by_cases q : fw_ n s x.Nodes[k] = true
  ·have q' := q
   unfold fw_ b5_ at q'
   rw [takeWhile_cons_of_pos q, lc_] at hS
   simp (disch := omega) only [t8, q', go_sem, Nat.reduceEqDiff, ↓reduceIte]
   exact ⟨x.Nodes.length - (k + 1), by omega, hJ _ _ _ ⟨k + 1, by simp [upd, t3], by simp [upd, t1], by simp [upd, t2], by simp [upd], o0, rfl, by omega, by omega⟩⟩
  ·have q1 : fw_ n s x.Nodes[k] = false := by simpa using q
   have q' := q1
   unfold fw_ b5_ at q'
   rw [takeWhile_cons_of_neg q] at hS
   have hp : bk_ x.Nodes n s = k := by simpa using hS
   have hf : bu_ x.Nodes n s = fu_ n s x.Nodes[k] := by unfold bu_; rw [hp, getElem?_eq_getElem hlt]
   by_cases e : x.Nodes[k].Name = n
   ·have e' : (x.Nodes[k].Name = n) = True := eq_true e
    simp (disch := omega) only [t3, t1, t2, t8, o0, hlt, q', e', ac_.cells, go_sem, Nat.reduceEqDiff, Nat.reduceAdd, Nat.reduceLeDiff, ↓reduceIte]
    refine aa_.call (hR_ _ _ (ax_ (ac_.sz_Subs hb)) _) ?_
    simp (disch := omega) only [go_sem, Nat.reduceEqDiff, ↓reduceIte]
    rw [hp, hf]
    refine gt_ _ _ ?_
    simp [fu_, e]
   ·have e' : (x.Nodes[k].Name = n) = False := eq_false e
    simp (disch := omega) only [t3, t1, t8, o0, hlt, q', e', ac_.cells, go_sem, Nat.reduceEqDiff, Nat.reduceAdd, ↓reduceIte]
    rw [hp, hf]
    refine gt_ _ _ ?_
    simp [fu_, e]
 ·have hp : bk_ x.Nodes n s = k := by rw [hS, drop_eq_nil_of_le (by omega)]; rfl
  have hf : bu_ x.Nodes n s = false := by unfold bu_; rw [hp, getElem?_eq_none (by omega)]
  simp (disch := omega) only [t3, t8, o0, hlt, go_sem, Nat.reduceEqDiff, ↓reduceIte]
  rw [hp, hf]
  exact df_ _ _ rfl
def l6_ (x : ad_) (n : ByteArray) (s : List ByteArray) : ByteArray × Bool := if (aH_ x && cR_ n s) = true then fb_ x n s else (txt [], false)
def Cq_ : LC :=
 .seq (.ops [.s 3 (.box 30 (.tmp 0)), .s 6 (.mov (.const (.string ⟨#[]⟩))), .s 7 (.mov (.const (.bool false)))]) (.seq (.seq (.ops [.ld 10 1 3, .c1 11 41 10, .nt 12 11, .m 13 12, .g 14 13 false (.mov (.tmp 1)), .g 15 13
 false (.mov (.tmp 2)), .g 16 13 false (.call 118 [.tmp 14, .tmp 15]), .g 17 13 false (.un .not (.tmp 16)), .pt 18 13 17]) (.cond (.tmp 18) (.seq (.ops [.s 6 (.mov (.const (.string ⟨#[]⟩))), .s 7 (.mov (.const (.bool
 false)))]) .ret) .skip)) (.seq (.ops [.ld 20 1 3, .m 21 1, .m 22 2, .c3 23 165 20 21 22, .m 19 23, .ex 24 19 0, .ex 25 19 1, .m 8 24, .m 9 25]) (.seq (.seq (.ops [.m 26 9, .nt 27 26]) (.cond (.tmp 27) (.seq (.ops [.s 6
 (.mov (.const (.string ⟨#[]⟩))), .s 7 (.mov (.const (.bool false)))]) .ret) .skip)) (.seq (.ops [.fa 28 0 3, .ln 29 28, .m 30 8, .ia 31 3 29 30, .fa 32 2 31, .ln 33 32, .m 6 33, .s 7 (.mov (.const (.bool true)))])
 .ret))))
def w0_ : LF := ⟨3, 34, Cq_, [.tmp 6, .tmp 7]⟩
theorem Bg_ : at_ Tryz.prog Tryz.f128 w0_ := ai_
theorem m1_ (x : ad_) (n : ByteArray) (s : List ByteArray) (hx : ad_.sz x ≤ 1048576) (hn : n.size ≤ 1048576) (hs : ao_ ByteArray.size s ≤ 1048576) (h : List Row) : aa_ Tryz.prog 128 [.agg (ad_.cells x), .val (.string n), .list 0 1 (s.map am_)] h (li_ (l6_ x n s)) := by
 refine aj_ mixed Tryz.func128 Bg_ rfl rfl ?_ h
 have hok : ∀ H, aa_ Tryz.prog 41 [.agg [.list 0 3 (x.Nodes.map ac_.cells)]] H (.val (.bool (aH_ x))) := fun H => cL_ x hx H
 have hp : ∀ H, aa_ Tryz.prog 165 [.agg [.list 0 3 (x.Nodes.map ac_.cells)], .val (.string n), .list 0 1 (s.map am_)] H (.tup [.val (.int .i64 (bk_ x.Nodes n s)), .val (.bool (bu_ x.Nodes n s))]) := fun H => kd_ x n s hx hs H
 simp (disch := omega) only [w0_, Cq_, ad_.cells, go_sem, Nat.reduceEqDiff, ↓reduceIte]
 refine aa_.call (hok _) ?_
 by_cases h1 : aH_ x = true
 case neg =>
  have h1' : aH_ x = false := by simpa using h1
  simp (disch := omega) only [h1', go_sem, Nat.reduceEqDiff, ↓reduceIte]
  exact gt_ _ _ (by simp [l6_, h1'])
 simp (disch := omega) only [h1, go_sem, Nat.reduceEqDiff, ↓reduceIte]
 refine aa_.call (cv_ _ _ hn (ax_ hs) _) ?_
 by_cases h2 : cR_ n s = true
 case neg =>
  have h2' : cR_ n s = false := by simpa using h2
  simp (disch := omega) only [h2', go_sem, Nat.reduceEqDiff, ↓reduceIte]
  exact gt_ _ _ (by simp [l6_, h2'])
 have hg : l6_ x n s = fb_ x n s := by simp [l6_, h1, h2]
 rw [hg]
 simp (disch := omega) only [h2, go_sem, Nat.reduceEqDiff, ↓reduceIte]
 refine aa_.call (hp _) ?_
 by_cases q : bu_ x.Nodes n s = true
 ·obtain ⟨hlt, e⟩ := pf_ q
  simp (disch := omega) only [q, ac_.cells, go_sem, Nat.reduceEqDiff, Nat.reduceAdd, Nat.reduceLeDiff, ↓reduceIte]
  rw [e]; exact df_ _ _ rfl
 ·have q' : bu_ x.Nodes n s = false := by simpa using q
  simp (disch := omega) only [q', go_sem, Nat.reduceEqDiff, ↓reduceIte]
  rw [ro_ q']; exact df_ _ _ rfl
def dS_ (n : ByteArray) (s : List ByteArray) (c : Int) (a : ac_) : Int := if inN n s a = true then (if a.Subs.length = s.length then c + 1 else if c < 10 then c + 10 else c) else c
def hK_ (x : ad_) (n : ByteArray) (s : List ByteArray) : Int := x.Nodes.foldl (dS_ n s) 0
theorem ja_ {α β : Type} (f : β → α → β) (z : β) (l : List α) {k : Nat} (h : k < l.length) : (l.take (k + 1)).foldl f z = f ((l.take k).foldl f z) l[k] := by
 rw [take_succ_eq_append_getElem h, foldl_append]; rfl
theorem vk_ (n : ByteArray) (s : List ByteArray) (c : Int) (a : ac_) (k : Nat) (h1 : 0 ≤ c) (h2 : c ≤ 20 + k) : 0 ≤ dS_ n s c a ∧ dS_ n s c a ≤ 20 + ((k + 1 : Nat) : Int) := by
 unfold dS_
 split
 ·split
  ·omega
  ·split <;> omega
 ·omega
theorem mi_ (n : ByteArray) (s : List ByteArray) (ns : List ac_) : ∀ k : Nat, k ≤ ns.length → 0 ≤ (ns.take k).foldl (dS_ n s) 0 ∧ (ns.take k).foldl (dS_ n s) 0 ≤ 20 + k
 | 0, _ => by simp
 | k + 1, h => by
  have ih := mi_ n s ns k (by omega)
  rw [ja_ _ _ _ (by omega)]
  exact vk_ n s _ _ k ih.1 ih.2
def z5_ : LC :=
 .seq (.ops [.s 3 (.box 30 (.tmp 0)), .ki 6 0]) (.seq (.ops [.ki 7 0]) (.seq (.seq (.ops [.fa 10 0 3, .ln 11 10, .ll 12 11, .ki 13 0]) (.block 0 (.loop (.seq (.ops [.bb 14 .lss false 13 12]) (.seq (.cond (.tmp 14) .skip
 (.exit 0)) (.seq (.block 1 (.seq (.ops [.ia 15 3 11 13, .ld 16 3 15, .s 9 (.alloc 112 (.agg #[.string ⟨#[]⟩, .slice none 0 0, .string ⟨#[]⟩])), .st 3 9 16]) (.seq (.seq (.ops [.ld 17 3 9, .m 18 1, .m 19 2, .c3 20 187 17
 18 19, .nt 21 20]) (.cond (.tmp 21) (.exit 1) .skip)) (.seq (.ops [.fa 22 1 9, .ln 23 22, .ll 24 23, .m 25 2, .ll 26 25, .bb 27 .eql false 24 26]) (.cond (.tmp 27) (.ops [.m 28 7, .bk 29 .add false 28 1, .m 7 29]) (.seq
 (.ops [.m 30 7, .bk 31 .lss false 30 10]) (.cond (.tmp 31) (.ops [.m 32 7, .bk 33 .add false 32 10, .m 7 33]) .skip))))))) (.ops [.bk 34 .add false 13 1, .m 13 34]))))))) (.seq (.ops [.m 35 7, .m 6 35]) .ret)))
def xu_ : LF := ⟨3, 36, z5_, [.tmp 6]⟩
theorem BQ_ : at_ Tryz.prog Tryz.f150 xu_ := ai_
def Ay_ : LC :=
 .seq (.ops [.s 3 (.box 30 (.tmp 0)), .ki 6 0]) (.seq (.ops [.ki 7 0]) (.seq (.seq (.ops [.ki 8 0]) (.block 0 (.loop (.seq (.seq (.ops [.m 9 8, .fa 10 0 3, .ln 11 10, .ll 12 11, .bb 13 .lss false 9 12]) (.cond (.tmp 13)
 .skip (.exit 0))) (.seq (.block 1 (.seq (.seq (.ops [.fa 16 0 3, .ln 17 16, .m 18 8, .ia 19 3 17 18, .ld 20 3 19, .m 21 1, .m 22 2, .c3 23 198 20 21 22, .nt 24 23]) (.cond (.tmp 24) (.exit 1) .skip)) (.seq (.ops [.fa 25
 0 3, .ln 26 25, .m 27 8, .ia 28 3 26 27, .fa 29 1 28, .ln 30 29, .ll 31 30, .m 32 2, .ll 33 32, .bb 34 .eql false 31 33]) (.cond (.tmp 34) (.ops [.m 35 7, .bk 36 .add false 35 1, .m 7 36]) (.seq (.ops [.m 37 7, .bk 38
 .lss false 37 10]) (.cond (.tmp 38) (.ops [.m 39 7, .bk 40 .add false 39 10, .m 7 40]) .skip)))))) (.ops [.m 14 8, .bk 15 .add false 14 1, .m 8 15])))))) (.seq (.ops [.m 41 7, .m 6 41]) .ret)))
def w3_ : LF := ⟨3, 42, Ay_, [.tmp 6]⟩
theorem Cm_ : at_ Tryz.prog Tryz.f166 w3_ := ai_
theorem lr_ (x : ad_) (n : ByteArray) (s : List ByteArray) (hx : ad_.sz x ≤ 1048576) (hs : s.length ≤ 1048576) (h : List Row) : aa_ Tryz.prog 150 [.agg (ad_.cells x), .val (.string n), .list 0 1 (s.map am_)] h (.val (.int .i64 (hK_ x n s))) := by
 refine aj_ mixed Tryz.func150 BQ_ rfl rfl ?_ h
 have hz := ad_.sz_Nodes hx
 have hl := ax_ hz
 have hm : ∀ a ∈ x.Nodes, ac_.sz a ≤ 1048576 := fun a ha => b6_ hz ha
 simp (disch := omega) only [xu_, z5_, ad_.cells, go_sem, Nat.reduceEqDiff, ↓reduceIte]
 refine aL_ (fun m t h => ∃ (k : Nat) (c : Int), t 3 = .ptr 0 1 0 0 ∧ t 1 = .val (.string n) ∧ t 2 = .list 0 1 (s.map am_) ∧ t 7 = .val (.int .i64 c) ∧ t 11 = .list 0 3 (x.Nodes.map ac_.cells) ∧ t 12 = .val (.int .i64 x.Nodes.length) ∧ t 13 = .val (.int .i64 k) ∧ h[0]? = some ⟨30, 1, [[.list 0 3 (x.Nodes.map ac_.cells)]]⟩ ∧ m = x.Nodes.length - k ∧ k ≤ x.Nodes.length ∧ c = (x.Nodes.take k).foldl (dS_ n s) 0) x.Nodes.length ⟨0, 0, rfl, rfl, rfl, rfl, rfl, rfl, rfl, rfl, rfl, Nat.zero_le _, rfl⟩ ?_
 rintro J hJ m t h ⟨k, c, t3, t1, t2, t7, t11, t12, t13, o0, rfl, hk, hS⟩
 have w0 := fun l => a1_ (l := l) o0
 by_cases hlt : k < x.Nodes.length
 ·have hb := hm _ (getElem_mem hlt)
  have hbs := ax_ (ac_.sz_Subs hb)
  have hin := mi_ n s x.Nodes k hk
  rw [← hS] at hin
  have hnx : ∀ (t' : Nat → AV) (c' : Int) (h' : List Row), t' 3 = t 3 → t' 1 = t 1 → t' 2 = t 2 → t' 7 = .val (.int .i64 c') → t' 11 = t 11 → t' 12 = t 12 → t' 13 = .val (.int .i64 (k + 1 : Nat)) → h'[0]? = h[0]? → c' = dS_ n s c x.Nodes[k] → ∃ m, m < x.Nodes.length - k ∧ J m t' h' :=
   fun t' c' h' e3 e1 e2 e7 e11 e12 e13 e0 ec => ⟨x.Nodes.length - (k + 1), by omega, hJ _ _ _ ⟨k + 1, c', e3.trans t3, e1.trans t1, e2.trans t2, e7, e11.trans t11, e12.trans t12, e13, e0.trans o0, rfl, by omega, by rw [ec, ja_ _ _ _ hlt, ← hS]⟩⟩
  simp (disch := omega) only [t1, t2, t11, t12, t13, hlt, ac_.cells, go_sem, Nat.reduceEqDiff, Nat.reduceAdd, ↓reduceIte]
  refine aa_.call (fJ_ x.Nodes[k] n s hb _) ?_
  by_cases q : inN n s x.Nodes[k] = true
  case neg =>
   have q' : inN n s x.Nodes[k] = false := by simpa using q
   simp (disch := omega) only [t13, q', go_sem, Nat.reduceEqDiff, ↓reduceIte]
   exact hnx _ c _ (by simp [upd]) (by simp [upd]) (by simp [upd]) (by simp [upd, t7]) (by simp [upd]) (by simp [upd]) (by simp [upd]) (by first | rfl | (rw [w0, o0])) (by unfold dS_; rw [if_neg q])
  by_cases e : x.Nodes[k].Subs.length = s.length
  ·have e' : ((x.Nodes[k].Subs.length : Int) = (s.length : Int)) = True := eq_true (by omega)
   simp (disch := omega) only [t2, t7, t13, q, e', aq_, go_sem, Nat.reduceEqDiff, ↓reduceIte]
   exact hnx _ (c + 1) _ (by simp [upd]) (by simp [upd]) (by simp [upd]) (by simp [upd]) (by simp [upd]) (by simp [upd]) (by simp [upd]) (by first | rfl | (rw [w0, o0])) (by unfold dS_; rw [if_pos q, if_pos e])
  ·have e' : ((x.Nodes[k].Subs.length : Int) = (s.length : Int)) = False := eq_false (by omega)
   by_cases e2 : c < 10
   ·simp (disch := omega) only [t2, t7, t13, q, e', e2, aq_, go_sem, Nat.reduceEqDiff, ↓reduceIte]
    exact hnx _ (c + 10) _ (by simp [upd]) (by simp [upd]) (by simp [upd]) (by simp [upd]) (by simp [upd]) (by simp [upd]) (by simp [upd]) (by first | rfl | (rw [w0, o0])) (by unfold dS_; rw [if_pos q, if_neg e, if_pos e2])
   ·simp (disch := omega) only [t2, t7, t13, q, e', e2, aq_, go_sem, Nat.reduceEqDiff, ↓reduceIte]
    exact hnx _ c _ (by simp [upd]) (by simp [upd]) (by simp [upd]) (by simp [upd, t7]) (by simp [upd]) (by simp [upd]) (by simp [upd]) (by first | rfl | (rw [w0, o0])) (by unfold dS_; rw [if_pos q, if_neg e, if_neg e2])
 ·simp (disch := omega) only [t7, t12, t13, hlt, go_sem, Nat.reduceEqDiff, ↓reduceIte]
  refine aG_ ?_
  rw [hS, take_of_length_le (by omega)]; rfl
theorem ip_ (x : ad_) (n : ByteArray) (s : List ByteArray) (hx : ad_.sz x ≤ 1048576) (hs : s.length ≤ 1048576) (h : List Row) : aa_ Tryz.prog 166 [.agg (ad_.cells x), .val (.string n), .list 0 1 (s.map am_)] h (.val (.int .i64 (hK_ x n s))) := by
 refine aj_ mixed Tryz.func166 Cm_ rfl rfl ?_ h
 have hz := ad_.sz_Nodes hx
 have hl := ax_ hz
 have hm : ∀ a ∈ x.Nodes, ac_.sz a ≤ 1048576 := fun a ha => b6_ hz ha
 simp (disch := omega) only [w3_, Ay_, ad_.cells, go_sem, ↓reduceIte]
 refine aL_ (fun m t h => ∃ (k : Nat) (c : Int), t 3 = .ptr 0 1 0 0 ∧ t 1 = .val (.string n) ∧ t 2 = .list 0 1 (s.map am_) ∧ t 7 = .val (.int .i64 c) ∧ t 8 = .val (.int .i64 k) ∧ h[0]? = some ⟨30, 1, [[.list 0 3 (x.Nodes.map ac_.cells)]]⟩ ∧ m = x.Nodes.length - k ∧ k ≤ x.Nodes.length ∧ c = (x.Nodes.take k).foldl (dS_ n s) 0) x.Nodes.length ⟨0, 0, rfl, rfl, rfl, rfl, rfl, rfl, rfl, Nat.zero_le _, rfl⟩ ?_
 rintro J hJ m t h ⟨k, c, t3, t1, t2, t7, t8, o0, rfl, hk, hS⟩
 have w0 := fun l => a1_ (l := l) o0
 by_cases hlt : k < x.Nodes.length
 ·have hb := hm _ (getElem_mem hlt)
  have hbs := ax_ (ac_.sz_Subs hb)
  have hin := mi_ n s x.Nodes k hk
  rw [← hS] at hin
  have hnx : ∀ (t' : Nat → AV) (c' : Int) (h' : List Row), t' 3 = t 3 → t' 1 = t 1 → t' 2 = t 2 → t' 7 = .val (.int .i64 c') → t' 8 = .val (.int .i64 (k + 1 : Nat)) → h'[0]? = h[0]? → c' = dS_ n s c x.Nodes[k] → ∃ m, m < x.Nodes.length - k ∧ J m t' h' :=
   fun t' c' h' e3 e1 e2 e7 e8 e0 ec => ⟨x.Nodes.length - (k + 1), by omega, hJ _ _ _ ⟨k + 1, c', e3.trans t3, e1.trans t1, e2.trans t2, e7, e8, e0.trans o0, rfl, by omega, by rw [ec, ja_ _ _ _ hlt, ← hS]⟩⟩
  simp (disch := omega) only [t3, t1, t2, t8, o0, hlt, ac_.cells, go_sem, Nat.reduceEqDiff, Nat.reduceAdd, ↓reduceIte]
  refine aa_.call (ka_ x.Nodes[k] n s hb _) ?_
  by_cases q : inN n s x.Nodes[k] = true
  case neg =>
   have q' : inN n s x.Nodes[k] = false := by simpa using q
   simp (disch := omega) only [t8, q', go_sem, Nat.reduceEqDiff, ↓reduceIte]
   exact hnx _ c _ (by simp [upd]) (by simp [upd]) (by simp [upd]) (by simp [upd, t7]) (by simp [upd]) (by first | rfl | (rw [w0, o0])) (by unfold dS_; rw [if_neg q])
  by_cases e : x.Nodes[k].Subs.length = s.length
  ·have e' : ((x.Nodes[k].Subs.length : Int) = (s.length : Int)) = True := eq_true (by omega)
   simp (disch := omega) only [t3, t2, t7, t8, o0, q, e', ac_.cells, aq_, go_sem, Nat.reduceEqDiff, Nat.reduceAdd, Nat.reduceLeDiff, ↓reduceIte]
   exact hnx _ (c + 1) _ (by simp [upd]) (by simp [upd]) (by simp [upd]) (by simp [upd]) (by simp [upd]) (by first | rfl | (rw [w0, o0])) (by unfold dS_; rw [if_pos q, if_pos e])
  ·have e' : ((x.Nodes[k].Subs.length : Int) = (s.length : Int)) = False := eq_false (by omega)
   by_cases e2 : c < 10
   ·simp (disch := omega) only [t3, t2, t7, t8, o0, q, e', e2, ac_.cells, aq_, go_sem, Nat.reduceEqDiff, Nat.reduceAdd, Nat.reduceLeDiff, ↓reduceIte]
    exact hnx _ (c + 10) _ (by simp [upd]) (by simp [upd]) (by simp [upd]) (by simp [upd]) (by simp [upd]) (by first | rfl | (rw [w0, o0])) (by unfold dS_; rw [if_pos q, if_neg e, if_pos e2])
   ·simp (disch := omega) only [t3, t2, t7, t8, o0, q, e', e2, ac_.cells, aq_, go_sem, Nat.reduceEqDiff, Nat.reduceAdd, Nat.reduceLeDiff, ↓reduceIte]
    exact hnx _ c _ (by simp [upd]) (by simp [upd]) (by simp [upd]) (by simp [upd, t7]) (by simp [upd]) (by first | rfl | (rw [w0, o0])) (by unfold dS_; rw [if_pos q, if_neg e, if_neg e2])
 ·simp (disch := omega) only [t3, t7, t8, o0, hlt, go_sem, Nat.reduceEqDiff, ↓reduceIte]
  refine aG_ ?_
  rw [hS, take_of_length_le (by omega)]; rfl
def DA_ : LC :=
 .seq (.ops [.s 3 (.box 30 (.tmp 0)), .ki 6 0]) (.seq (.seq (.ops [.ld 7 1 3, .c1 8 41 7, .nt 9 8, .m 10 9, .g 11 10 false (.mov (.tmp 1)), .g 12 10 false (.mov (.tmp 2)), .g 13 10 false (.call 118 [.tmp 11, .tmp 12]), .g
 14 10 false (.un .not (.tmp 13)), .pt 15 10 14]) (.cond (.tmp 15) (.seq (.ops [.ki 6 0]) .ret) .skip)) (.seq (.ops [.ld 16 1 3, .m 17 1, .m 18 2, .c3 19 166 16 17 18, .m 6 19]) .ret))
def wL_ : LF := ⟨3, 20, DA_, [.tmp 6]⟩
theorem CM_ : at_ Tryz.prog Tryz.f129 wL_ := ai_
theorem nO_ (x : ad_) (n : ByteArray) (s : List ByteArray) (hx : ad_.sz x ≤ 1048576) (hn : n.size ≤ 1048576) (hs : s.length ≤ 1048576) (h : List Row) : aa_ Tryz.prog 129 [.agg (ad_.cells x), .val (.string n), .list 0 1 (s.map am_)] h (.val (.int .i64 (if (aH_ x && cR_ n s) = true then hK_ x n s else 0))) := by
 refine aj_ mixed Tryz.func129 CM_ rfl rfl ?_ h
 simp (disch := omega) only [wL_, DA_, ad_.cells, go_sem, Nat.reduceEqDiff, ↓reduceIte]
 repeat' (first
  | exact af_ _ _
  | (refine aG_ ?_; simp [*]; done)
  | simp (disch := omega) only [go_sem, Nat.reduceEqDiff, ↓reduceIte]
  | (refine aa_.call (show aa_ Tryz.prog 41 [.agg [.list 0 3 (x.Nodes.map ac_.cells)]] _ _ from cL_ x hx _) ?_)
  | (refine aa_.q (show aa_ Tryz.prog 41 [.agg [.list 0 3 (x.Nodes.map ac_.cells)]] _ _ from cL_ x hx _) ?_)
  | (refine aa_.call (cv_ _ _ hn hs _) ?_)
  | (refine aa_.q (cv_ _ _ hn hs _) ?_)
  | (refine aa_.call (show aa_ Tryz.prog 166 [.agg [.list 0 3 (x.Nodes.map ac_.cells)], .val (.string n), .list 0 1 (s.map am_)] _ _ from ip_ x n s hx hs _) ?_)
  | (refine aa_.q (show aa_ Tryz.prog 166 [.agg [.list 0 3 (x.Nodes.map ac_.cells)], .val (.string n), .list 0 1 (s.map am_)] _ _ from ip_ x n s hx hs _) ?_)
  | ((first | (apply aS_; assumption) | (apply aT_; assumption) | (apply a8_; assumption) | (apply a9_; assumption)); intro hb; try simp only [hb])
  | ((first | (apply aF_; assumption) | (apply aE_; assumption) | (apply aN_; assumption) | (apply aO_; assumption)); intro hb; try simp only [hb])
  | ((first | apply az_ | apply aC_ | apply ak_ | apply an_) <;> intro hb <;> (try simp only [hb]) <;> (first | have hp := aV_ hb | have hp := aU_ hb | have hp := aW_ hb | have hp := aX_ hb | skip)))
end Go.Proofs.YtfplhbjggecnpaaGreatDoor
