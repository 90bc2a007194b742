/-
 Contracts of functions of this program, over abstract values. Conditions: as each theorem says.
-/
import Derived.Test.YtfplhbjggecnpaaGreatDoorFnKJ
import Derived.Test.YtfplhbjggecnpaaGreatDoorPlKey
import Derived.Test.YtfplhbjggecnpaaGreatDoorAwC
namespace Go.Proofs.YtfplhbjggecnpaaGreatDoor
open Go.AW
set_option linter.unusedVariables false
set_option linter.unusedSimpArgs false
set_option maxRecDepth 4000
theorem mK_ (s : ByteArray) : (!fg_ s) = decide ((s.size : Int) ≤ 64) := by
 rw [fg_, Bool.eq_iff_iff]; simp only [Bool.not_eq_true', decide_eq_false_iff_not, decide_eq_true_eq]; omega
theorem qX_ (xs : List ByteArray) (x : ByteArray) : be_ (xs ++ [x]) = (decide ((xs.length : Int) + 1 ≤ 4) && (xs.all bM_ && bM_ x)) := by
 simp [be_]
theorem ra_ (xs : List ByteArray) (h : 0 < xs.length) : xs = ci_ xs ++ [ef_ xs] := by
 have hlt : xs.length - 1 < xs.length := by omega
 rw [← jl_ xs hlt, ci_]
 conv => lhs; rw [← List.take_append_drop (xs.length - 1) xs]
 congr 1
 rw [List.drop_eq_getElem_cons hlt, List.drop_eq_nil_of_le (by omega)]
theorem qF_ (xs : List ByteArray) : (decide ((xs.length : Int) ≤ 4) && gx_ xs) = (decide (0 < (xs.length : Int)) && decide ((xs.length : Int) ≤ 4) && be_ (ci_ xs) && (decide (ef_ xs = txt []) || bM_ (ef_ xs))) := by
 by_cases h0 : 0 < xs.length
 case neg =>
  have : xs.length = 0 := by omega
  simp [gx_, this]
 have hs : be_ xs = (decide ((xs.length : Int) ≤ 4) && ((ci_ xs).all bM_ && bM_ (ef_ xs))) := by
  have e := ra_ xs h0
  have hl : ((ci_ xs).length : Int) + 1 = xs.length := by rw [ci_, List.length_take]; omega
  conv => lhs; rw [e]
  rw [qX_, hl]
 have hf : be_ (ci_ xs) = (decide (((ci_ xs).length : Int) ≤ 4) && (ci_ xs).all bM_) := rfl
 have hl : ((ci_ xs).length : Int) = xs.length - 1 := by rw [ci_, List.length_take]; omega
 rw [gx_, hs, hf, hl]
 have h1 : decide (0 < (xs.length : Int)) = true := by simp; omega
 rw [h1]
 by_cases h4 : (xs.length : Int) ≤ 4
 ·have h5 : decide ((xs.length : Int) - 1 ≤ 4) = true := by simp; omega
  have h4' : decide ((xs.length : Int) ≤ 4) = true := by simpa using h4
  rw [h4', h5]
  cases (ci_ xs).all bM_ <;> cases bM_ (ef_ xs) <;> cases decide (ef_ xs = txt []) <;> rfl
 ·have h4' : decide ((xs.length : Int) ≤ 4) = false := by simpa using h4
  rw [h4']; rfl
theorem pt_ {x : ab_} (k5 : ¬ x.Kind = 5) : cp_ x = (bP_ x.Name && be_ x.Subs) := by rw [cp_, if_neg k5]
theorem qZ_ {x : ab_} (k5 : ¬ x.Kind = 5) : ch_ x = (cp_ x && bp_ x) := by
 rw [ch_, if_neg k5, pt_ k5]; cases bP_ x.Name <;> cases bp_ x <;> cases be_ x.Subs <;> rfl
theorem rx_ {x : ab_} (k5 : x.Kind = 5) : ch_ x = (cp_ x && bp_ x) := by
 rw [ch_, if_pos k5, cp_, if_pos k5, qF_]
 generalize (decide (0 < (x.Subs.length : Int)) && decide ((x.Subs.length : Int) ≤ 4) && be_ (ci_ x.Subs) && (decide (ef_ x.Subs = txt []) || bM_ (ef_ x.Subs))) = q
 cases bP_ x.Name <;> cases bp_ x <;> cases q <;> rfl
theorem dE_ (x : ab_) : ch_ x = (cp_ x && bp_ x) := by
 by_cases k5 : x.Kind = 5
 ·exact rx_ k5
 ·exact qZ_ k5
theorem BK_ {x : ab_} (k : x.Kind = 1) : bp_ x = (decide ((x.Value.size : Int) ≤ 64) && dX_ x.N && (decide (x.N.tmod 10 = 1) || decide (x.Value = txt []))) := by
 rw [bp_, if_pos k, mK_]; rw [Bool.and_comm (dX_ x.N)]
theorem BM_ {x : ab_} (k : x.Kind = 4) : bp_ x = (dX_ x.N && decide (x.Value = txt [])) := by
 rw [bp_, if_neg (by omega), if_pos k]
theorem BP_ {x : ab_} (k : x.Kind = 5) : bp_ x = ((decide (x.Value = txt []) || bM_ x.Value) && (decide (x.N = 1) || decide (x.N = -1))) := by
 rw [bp_, if_neg (by omega), if_neg (by omega), if_pos k, Bool.and_comm]
theorem mN_ (s : ByteArray) : be_ (dw_ s).1 = true := by
 rw [dw_]
 cases h : fv_ du_ (bs s) with
 | none => rfl
 | some xs => simp only; rw [dO_]; exact ((ho_ jo_ (bs s) xs).1 h).1
theorem z0_ {x : ab_} (k : x.Kind = 6) : bp_ x = if x.N = 0 then decide (x.Value = txt []) else decide (x.N = 1) && (dw_ x.Value).2 := by
 rw [bp_, if_neg (by omega), if_neg (by omega), if_neg (by omega), if_pos k]
 by_cases h : x.N = 0
 ·rw [if_pos h, h]; simp
 ·rw [if_neg h]; simp [h]
theorem BN_ {x : ab_} (k : x.Kind = 2) : bp_ x = (decide ((x.Value.size : Int) ≤ 64) && decide (x.N = 0)) := by
 rw [bp_, if_neg (by omega), if_neg (by omega), if_neg (by omega), if_neg (by omega), if_pos k, mK_, Bool.and_comm]
theorem BG_ {x : ab_} (k : x.Kind = 3) : bp_ x = (decide (x.Value = txt []) && decide (x.N = 0)) := by
 rw [bp_, if_neg (by omega), if_neg (by omega), if_neg (by omega), if_neg (by omega), if_neg (by omega)]
 simp [k, Bool.and_comm]
theorem BJ_ {x : ab_} (k1 : ¬ x.Kind = 1) (k4 : ¬ x.Kind = 4) (k5 : ¬ x.Kind = 5) (k6 : ¬ x.Kind = 6) (k2 : ¬ x.Kind = 2) (k3 : ¬ x.Kind = 3) : bp_ x = false := by
 simp [bp_, *]
theorem tG_ (s : ByteArray) : (dw_ s).1.length ≤ 1048576 := by
 have := (g0_ (mN_ s)).1; omega
def c80 : LC :=
 .seq (.ops [.s 1 (.box 79 (.tmp 0)), .s 2 (.mov (.const (.bool false)))]) (.seq (.seq (.ops [.ld 5 5 1, .c1 6 81 5, .nt 7 6, .m 8 7, .g 9 8 true (.load (some 5) (.tmp 1)), .g 10 8 true (.call 120 [.tmp 9]), .g 11 8 true
 (.un .not (.tmp 10)), .pf 12 8 11, .m 13 12, .g 14 13 false (.load (some 5) (.tmp 1)), .g 15 13 false (.call 121 [.tmp 14]), .g 16 13 false (.un .not (.tmp 15)), .pt 17 13 16]) (.cond (.tmp 17) (.seq (.ops [.s 2 (.mov
 (.const (.bool false)))]) .ret) .skip)) (.seq (.seq (.ops [.fa 18 0 1, .ln 19 18]) (.block 0 (.seq (.ops [.bk 21 .eql false 19 1, .m 20 21]) (.cond (.tmp 20) (.seq (.ops [.fa 22 3 1, .ln 23 22, .s 24 (.lenStr (.tmp 23)),
 .bk 25 .leq false 24 64, .m 26 25, .g 27 26 true (.fieldAddr 4 (.tmp 1)), .g 28 26 true (.load none (.tmp 27)), .g 29 26 true (.call 122 [.tmp 28]), .pf 30 26 29, .m 31 30, .g 32 31 true (.fieldAddr 4 (.tmp 1)), .g 33 31
 true (.load none (.tmp 32)), .g 34 31 true (.bin .rem false (.tmp 33) (.const (.int .i64 10))), .g 35 31 true (.bin .eql false (.tmp 34) (.const (.int .i64 1))), .g 36 31 true (.mov (.tmp 35)), .g 37 36 false (.fieldAddr
 3 (.tmp 1)), .g 38 36 false (.load none (.tmp 37)), .g 39 36 false (.bin .eql false (.tmp 38) (.const (.string ⟨#[]⟩))), .g 40 31 true (.pick (.tmp 36) (.const (.bool true)) (.tmp 39)), .pf 41 31 40, .m 2 41]) .ret)
 (.seq (.ops [.bk 43 .eql false 19 4, .m 42 43]) (.cond (.tmp 42) (.seq (.ops [.fa 44 4 1, .ln 45 44, .c1 46 122 45, .m 47 46, .g 48 47 true (.fieldAddr 3 (.tmp 1)), .g 49 47 true (.load none (.tmp 48)), .g 50 47 true
 (.bin .eql false (.tmp 49) (.const (.string ⟨#[]⟩))), .pf 51 47 50, .m 2 51]) .ret) (.seq (.ops [.bk 53 .eql false 19 5, .m 52 53]) (.cond (.tmp 52) (.seq (.ops [.fa 54 3 1, .ln 55 54, .s 56 (.bin .eql false (.tmp 55)
 (.const (.string ⟨#[]⟩))), .m 57 56, .g 58 57 false (.fieldAddr 3 (.tmp 1)), .g 59 57 false (.load none (.tmp 58)), .g 60 57 false (.call 123 [.tmp 59]), .pt 61 57 60, .m 62 61, .g 63 62 true (.fieldAddr 4 (.tmp 1)), .g
 64 62 true (.load none (.tmp 63)), .g 65 62 true (.bin .eql false (.tmp 64) (.const (.int .i64 1))), .g 66 62 true (.mov (.tmp 65)), .g 67 66 false (.fieldAddr 4 (.tmp 1)), .g 68 66 false (.load none (.tmp 67)), .g 69 66
 false (.bin .eql false (.tmp 68) (.const (.int .i64 (-1)))), .g 70 62 true (.pick (.tmp 66) (.const (.bool true)) (.tmp 69)), .pf 71 62 70, .m 2 71]) .ret) (.seq (.ops [.bk 73 .eql false 19 6, .m 72 73]) (.cond (.tmp 72)
 (.seq (.seq (.ops [.fa 74 4 1, .ln 75 74, .bk 76 .eql false 75 0]) (.cond (.tmp 76) (.seq (.ops [.fa 77 3 1, .ln 78 77, .s 79 (.bin .eql false (.tmp 78) (.const (.string ⟨#[]⟩))), .m 2 79]) .ret) .skip)) (.seq (.ops [.fa
 81 3 1, .ln 82 81, .c1 83 124 82, .m 80 83, .ex 84 80 0, .ex 85 80 1, .m 3 84, .m 4 85]) (.seq (.ops [.fa 86 4 1, .ln 87 86, .bk 88 .eql false 87 1, .m 89 88, .g 90 89 true (.mov (.tmp 4)), .pf 91 89 90, .m 92 91, .g 93
 92 true (.mov (.tmp 3)), .g 94 92 true (.call 125 [.tmp 93]), .pf 95 92 94, .m 2 95]) .ret))) (.seq (.ops [.bk 97 .eql false 19 2, .m 96 97]) (.cond (.tmp 96) (.seq (.ops [.fa 98 3 1, .ln 99 98, .s 100 (.lenStr (.tmp
 99)), .bk 101 .leq false 100 64, .m 102 101, .g 103 102 true (.fieldAddr 4 (.tmp 1)), .g 104 102 true (.load none (.tmp 103)), .g 105 102 true (.bin .eql false (.tmp 104) (.const (.int .i64 0))), .pf 106 102 105, .m 2
 106]) .ret) .skip)))))))))))) (.seq (.ops [.fa 107 3 1, .ln 108 107, .s 109 (.bin .eql false (.tmp 108) (.const (.string ⟨#[]⟩))), .m 110 109, .g 111 110 true (.fieldAddr 4 (.tmp 1)), .g 112 110 true (.load none (.tmp
 111)), .g 113 110 true (.bin .eql false (.tmp 112) (.const (.int .i64 0))), .pf 114 110 113, .m 2 114]) .ret)))
def i1_ : LF := ⟨1, 115, c80, [.tmp 2]⟩
theorem Bb_ : at_ Tryz.prog Tryz.f80 i1_ := ah_
theorem eY_ (x : ab_) (hx : ab_.sz x ≤ 1048576) (h : List Row) : aa_ Tryz.prog 80 [.agg (ab_.cells x)] h (.val (.bool (ch_ x))) := by
 refine aj_ mixed Tryz.func80 Bb_ rfl rfl ?_ h
 have hv := ab_.sz_Value hx
 have hW := fun h => kO_ x hx h
 have hRd := fun h => lU_ x h
 have hTn := fun h => hA_ x h
 have hq := tG_ x.Value
 have hqs := mN_ x.Value
 by_cases k1 : x.Kind = 1
 ·have r : cK_ x = true := by simp [cK_, k1]
  have hN : ch_ x = (cp_ x && (decide ((x.Value.size : Int) ≤ 64) && dX_ x.N && (decide (x.N.tmod 10 = 1) || decide (x.Value = txt [])))) := by rw [dE_, BK_ k1]
  rw [r] at hRd
  simp only [ab_.cells, k1] at hW hRd hTn
  simp (disch := omega) only [i1_, c80, ab_.cells, k1, go_sem, Nat.reduceEqDiff, Nat.reduceAdd, Int.reduceNeg, ↓reduceIte]
  repeat' (first
   | exact ae_ _ _
   | (refine ad_ ?_; rw [hN]; simp only [*, Bool.true_and, Bool.and_false, Bool.false_and, Bool.true_or, Bool.false_or, decide_true, decide_false, Bool.and_self]; done)
   | simp (disch := omega) only [go_sem, Nat.reduceEqDiff, Nat.reduceAdd, Int.reduceNeg, ↓reduceIte]
   | (refine aa_.call (hRd _) ?_)
   | (refine aa_.q (hRd _) ?_)
   | (refine aa_.call (hTn _) ?_)
   | (refine aa_.q (hTn _) ?_)
   | (refine aa_.call (hW _) ?_)
   | (refine aa_.q (hW _) ?_)
   | (refine aa_.call (es_ _ _) ?_)
   | (refine aa_.q (es_ _ _) ?_)
   | ((first | (apply aR_; assumption) | (apply aQ_; assumption) | (apply a3_; assumption) | (apply a4_; assumption)); intro hb; try simp only [hb])
   | ((first | (apply aG_; assumption) | (apply aE_; assumption) | (apply aL_; assumption) | (apply aM_; assumption)); intro hb; try simp only [hb])
   | ((first | apply av_ | apply ay_ | apply ak_ | apply al_) <;> intro hb <;> (try simp only [hb]) <;> (first | have hp := a1_ hb | have hp := aZ_ hb | have hp := a0_ hb | have hp := a2_ hb | skip)))
 by_cases k4 : x.Kind = 4
 ·have r : cK_ x = true := by simp [cK_, k4]
  have hN : ch_ x = (cp_ x && (dX_ x.N && decide (x.Value = txt []))) := by rw [dE_, BM_ k4]
  rw [r] at hRd
  simp only [ab_.cells, k4] at hW hRd hTn
  simp (disch := omega) only [i1_, c80, ab_.cells, k4, go_sem, Nat.reduceEqDiff, Nat.reduceAdd, Int.reduceNeg, ↓reduceIte]
  repeat' (first
   | exact ae_ _ _
   | (refine ad_ ?_; rw [hN]; simp only [*, Bool.true_and, Bool.and_false, Bool.false_and]; done)
   | simp (disch := omega) only [Int.reduceEq, go_sem, Nat.reduceEqDiff, Nat.reduceAdd, Int.reduceNeg, ↓reduceIte]
   | (refine aa_.call (hRd _) ?_)
   | (refine aa_.q (hRd _) ?_)
   | (refine aa_.call (hTn _) ?_)
   | (refine aa_.q (hTn _) ?_)
   | (refine aa_.call (hW _) ?_)
   | (refine aa_.q (hW _) ?_)
   | (refine aa_.call (es_ _ _) ?_)
   | (refine aa_.q (es_ _ _) ?_)
   | ((first | (apply aR_; assumption) | (apply aQ_; assumption) | (apply a3_; assumption) | (apply a4_; assumption)); intro hb; try simp only [hb])
   | ((first | (apply aG_; assumption) | (apply aE_; assumption) | (apply aL_; assumption) | (apply aM_; assumption)); intro hb; try simp only [hb])
   | ((first | apply av_ | apply ay_ | apply ak_ | apply al_) <;> intro hb <;> (try simp only [hb]) <;> (first | have hp := a1_ hb | have hp := aZ_ hb | have hp := a0_ hb | have hp := a2_ hb | skip)))
 by_cases k5 : x.Kind = 5
 ·have r : cK_ x = true := by simp [cK_, k5]
  have hN : ch_ x = (cp_ x && ((decide (x.Value = txt []) || bM_ x.Value) && (decide (x.N = 1) || decide (x.N = -1)))) := by rw [dE_, BP_ k5]
  rw [r] at hRd
  simp only [ab_.cells, k5] at hW hRd hTn
  simp (disch := omega) only [i1_, c80, ab_.cells, k5, go_sem, Nat.reduceEqDiff, Nat.reduceAdd, Int.reduceNeg, ↓reduceIte]
  repeat' (first
   | exact ae_ _ _
   | (refine ad_ ?_; rw [hN]; simp only [*, Bool.true_and, Bool.and_false, Bool.false_and, Bool.or_true, Bool.true_or, Bool.false_or, Bool.and_self, Bool.or_self]; done)
   | simp (disch := omega) only [Int.reduceEq, go_sem, Nat.reduceEqDiff, Nat.reduceAdd, Int.reduceNeg, ↓reduceIte]
   | (refine aa_.call (hRd _) ?_)
   | (refine aa_.q (hRd _) ?_)
   | (refine aa_.call (hTn _) ?_)
   | (refine aa_.q (hTn _) ?_)
   | (refine aa_.call (hW _) ?_)
   | (refine aa_.q (hW _) ?_)
   | (refine aa_.call (fn_ _ _) ?_)
   | (refine aa_.q (fn_ _ _) ?_)
   | ((first | (apply aR_; assumption) | (apply aQ_; assumption) | (apply a3_; assumption) | (apply a4_; assumption)); intro hb; try simp only [hb])
   | ((first | (apply aG_; assumption) | (apply aE_; assumption) | (apply aL_; assumption) | (apply aM_; assumption)); intro hb; try simp only [hb])
   | ((first | apply av_ | apply ay_ | apply ak_ | apply al_) <;> intro hb <;> (try simp only [hb]) <;> (first | have hp := a1_ hb | have hp := aZ_ hb | have hp := a0_ hb | have hp := a2_ hb | skip)))
 by_cases k6 : x.Kind = 6
 ·have r : cK_ x = true := by simp [cK_, k6]
  rw [r] at hRd
  simp only [ab_.cells, k6] at hW hRd hTn
  by_cases hn0 : x.N = 0
  ·have hN : ch_ x = (cp_ x && decide (x.Value = txt [])) := by rw [dE_, z0_ k6, if_pos hn0]
   simp (disch := omega) only [i1_, c80, ab_.cells, k6, go_sem, Nat.reduceEqDiff, Nat.reduceAdd, Int.reduceNeg, ↓reduceIte]
   simp only [hn0] at hW hRd hTn
   repeat' (first
    | exact ae_ _ _
    | (refine ad_ ?_; rw [hN]; simp only [*, Bool.true_and, Bool.false_and]; done)
    | simp (disch := omega) only [Int.reduceEq, hn0, go_sem, Nat.reduceEqDiff, Nat.reduceAdd, Int.reduceNeg, ↓reduceIte]
    | (refine aa_.call (hRd _) ?_)
    | (refine aa_.q (hRd _) ?_)
    | (refine aa_.call (hTn _) ?_)
    | (refine aa_.q (hTn _) ?_)
    | (refine aa_.call (hW _) ?_)
    | (refine aa_.q (hW _) ?_)
    | ((first | (apply aR_; assumption) | (apply aQ_; assumption) | (apply a3_; assumption) | (apply a4_; assumption)); intro hb; try simp only [hb])
    | ((first | (apply aG_; assumption) | (apply aE_; assumption) | (apply aL_; assumption) | (apply aM_; assumption)); intro hb; try simp only [hb])
    | ((first | apply av_ | apply ay_ | apply ak_ | apply al_) <;> intro hb <;> (try simp only [hb]) <;> (first | have hp := a1_ hb | have hp := aZ_ hb | have hp := a0_ hb | have hp := a2_ hb | skip)))
  ·have hN : ch_ x = (cp_ x && (decide (x.N = 1) && (dw_ x.Value).2)) := by rw [dE_, z0_ k6, if_neg hn0]
   simp (disch := omega) only [i1_, c80, ab_.cells, k6, go_sem, Nat.reduceEqDiff, Nat.reduceAdd, Int.reduceNeg, ↓reduceIte]
   repeat' (first
    | exact ae_ _ _
    | (refine ad_ ?_; rw [hN]; simp only [*, Bool.and_false, Bool.false_and, Bool.and_self]; done)
    | simp (disch := omega) only [Int.reduceEq, hn0, go_sem, Nat.reduceEqDiff, Nat.reduceAdd, Int.reduceNeg, ↓reduceIte]
    | (refine aa_.call (hRd _) ?_)
    | (refine aa_.q (hRd _) ?_)
    | (refine aa_.call (hTn _) ?_)
    | (refine aa_.q (hTn _) ?_)
    | (refine aa_.call (hW _) ?_)
    | (refine aa_.q (hW _) ?_)
    | (refine aa_.call (hE_ _ hv _) ?_)
    | (refine aa_.q (hE_ _ hv _) ?_)
    | (refine aa_.call (cz_ _ hq _) ?_)
    | (refine aa_.q (cz_ _ hq _) ?_)
    | ((first | (apply aR_; assumption) | (apply aQ_; assumption) | (apply a3_; assumption) | (apply a4_; assumption)); intro hb; try simp only [hb])
    | ((first | (apply aG_; assumption) | (apply aE_; assumption) | (apply aL_; assumption) | (apply aM_; assumption)); intro hb; try simp only [hb])
    | ((first | apply av_ | apply ay_ | apply ak_ | apply al_) <;> intro hb <;> (try simp only [hb]) <;> (first | have hp := a1_ hb | have hp := aZ_ hb | have hp := a0_ hb | have hp := a2_ hb | skip)))
 by_cases k2 : x.Kind = 2
 ·have r : cK_ x = false := by simp [cK_, k2]
  have r2 : co_ x = true := by simp [co_, k2]
  have hN : ch_ x = (cp_ x && (decide ((x.Value.size : Int) ≤ 64) && decide (x.N = 0))) := by rw [dE_, BN_ k2]
  rw [r] at hRd
  rw [r2] at hTn
  simp only [ab_.cells, k2] at hW hRd hTn
  simp (disch := omega) only [i1_, c80, ab_.cells, k2, go_sem, Nat.reduceEqDiff, Nat.reduceAdd, Int.reduceNeg, ↓reduceIte]
  repeat' (first
   | exact ae_ _ _
   | (refine ad_ ?_; rw [hN]; simp only [*, Bool.true_and, Bool.and_false, Bool.false_and, decide_true, decide_false]; done)
   | simp (disch := omega) only [Int.reduceEq, go_sem, Nat.reduceEqDiff, Nat.reduceAdd, Int.reduceNeg, ↓reduceIte]
   | (refine aa_.call (hRd _) ?_)
   | (refine aa_.q (hRd _) ?_)
   | (refine aa_.call (hTn _) ?_)
   | (refine aa_.q (hTn _) ?_)
   | (refine aa_.call (hW _) ?_)
   | (refine aa_.q (hW _) ?_)
   | ((first | (apply aR_; assumption) | (apply aQ_; assumption) | (apply a3_; assumption) | (apply a4_; assumption)); intro hb; try simp only [hb])
   | ((first | (apply aG_; assumption) | (apply aE_; assumption) | (apply aL_; assumption) | (apply aM_; assumption)); intro hb; try simp only [hb])
   | ((first | apply av_ | apply ay_ | apply ak_ | apply al_) <;> intro hb <;> (try simp only [hb]) <;> (first | have hp := a1_ hb | have hp := aZ_ hb | have hp := a0_ hb | have hp := a2_ hb | skip)))
 by_cases k3 : x.Kind = 3
 ·have r : cK_ x = false := by simp [cK_, k3]
  have r2 : co_ x = true := by simp [co_, k3]
  have hN : ch_ x = (cp_ x && (decide (x.Value = txt []) && decide (x.N = 0))) := by rw [dE_, BG_ k3]
  rw [r] at hRd
  rw [r2] at hTn
  simp only [ab_.cells, k3] at hW hRd hTn
  simp (disch := omega) only [i1_, c80, ab_.cells, k3, go_sem, Nat.reduceEqDiff, Nat.reduceAdd, Int.reduceNeg, ↓reduceIte]
  repeat' (first
   | exact ae_ _ _
   | (refine ad_ ?_; rw [hN]; simp only [*, Bool.true_and, Bool.and_false, Bool.false_and]; done)
   | simp (disch := omega) only [Int.reduceEq, go_sem, Nat.reduceEqDiff, Nat.reduceAdd, Int.reduceNeg, ↓reduceIte]
   | (refine aa_.call (hRd _) ?_)
   | (refine aa_.q (hRd _) ?_)
   | (refine aa_.call (hTn _) ?_)
   | (refine aa_.q (hTn _) ?_)
   | (refine aa_.call (hW _) ?_)
   | (refine aa_.q (hW _) ?_)
   | ((first | (apply aR_; assumption) | (apply aQ_; assumption) | (apply a3_; assumption) | (apply a4_; assumption)); intro hb; try simp only [hb])
   | ((first | (apply aG_; assumption) | (apply aE_; assumption) | (apply aL_; assumption) | (apply aM_; assumption)); intro hb; try simp only [hb])
   | ((first | apply av_ | apply ay_ | apply ak_ | apply al_) <;> intro hb <;> (try simp only [hb]) <;> (first | have hp := a1_ hb | have hp := aZ_ hb | have hp := a0_ hb | have hp := a2_ hb | skip)))
 have r : cK_ x = false := by simp [cK_, *]
 have r2 : co_ x = false := by simp [co_, *]
 have hN : ch_ x = false := by rw [dE_, BJ_ k1 k4 k5 k6 k2 k3]; simp
 rw [r] at hRd
 rw [r2] at hTn
 simp only [ab_.cells] at hW hRd hTn
 simp (disch := omega) only [i1_, c80, ab_.cells, go_sem, Nat.reduceEqDiff, Nat.reduceAdd, Int.reduceNeg, ↓reduceIte]
 repeat' (first
  | exact ae_ _ _
  | (refine ad_ ?_; rw [hN]; done)
  | simp (disch := omega) only [go_sem, Nat.reduceEqDiff, Nat.reduceAdd, Int.reduceNeg, ↓reduceIte]
  | (refine aa_.call (hRd _) ?_)
  | (refine aa_.q (hRd _) ?_)
  | (refine aa_.call (hTn _) ?_)
  | (refine aa_.q (hTn _) ?_)
  | (refine aa_.call (hW _) ?_)
  | (refine aa_.q (hW _) ?_)
  | ((first | (apply aR_; assumption) | (apply aQ_; assumption) | (apply a3_; assumption) | (apply a4_; assumption)); intro hb; try simp only [hb])
  | ((first | (apply aG_; assumption) | (apply aE_; assumption) | (apply aL_; assumption) | (apply aM_; assumption)); intro hb; try simp only [hb])
  | ((first | apply av_ | apply ay_ | apply ak_ | apply al_) <;> intro hb <;> (try simp only [hb]) <;> (first | have hp := a1_ hb | have hp := aZ_ hb | have hp := a0_ hb | have hp := a2_ hb | skip)))
end Go.Proofs.YtfplhbjggecnpaaGreatDoor
namespace Go.AW
set_option linter.unusedSimpArgs false
theorem iL_ : ∀ a b c : List UInt8, Op.bytesLess a b = true → Op.bytesLess b c = true → Op.bytesLess a c = true
 | [], [], _, h, _ => by simp [Op.bytesLess] at h
 | _ :: _, [], _, h, _ => by simp [Op.bytesLess] at h
 | [], _ :: _, [], _, h => by simp [Op.bytesLess] at h
 | [], _ :: _, _ :: _, _, _ => rfl
 | _ :: _, _ :: _, [], _, h => by simp [Op.bytesLess] at h
 | x :: a, y :: b, z :: c, h1, h2 => by
  simp only [Op.bytesLess, Bool.or_eq_true, Bool.and_eq_true, decide_eq_true_eq, beq_iff_eq] at h1 h2 ⊢
  rcases h1 with h1 | ⟨h1, k1⟩
  ·rcases h2 with h2 | ⟨h2, k2⟩
   ·exact .inl (UInt8.lt_trans h1 h2)
   ·subst h2; exact .inl h1
  ·subst h1
   rcases h2 with h2 | ⟨h2, k2⟩
   ·exact .inl h2
   ·exact .inr ⟨h2, iL_ a b c k1 k2⟩
theorem nO_ (a b c : List UInt8) (h1 : before a b = true) (h2 : before b c = true) : before a c = true := by
 unfold before at h1 h2 ⊢
 cases ha : bJ_ a <;> cases hb : bJ_ b <;> cases hc : bJ_ c <;> simp only [ha, hb, hc, Bool.and_true, Bool.and_false, Bool.false_eq_true, if_true, if_false, bne_self_eq_false, Bool.and_self] at h1 h2 ⊢ <;> try (simp at h1 h2 ⊢; done)
 ·exact iL_ a b c h1 h2
 ·simp at h1 h2 ⊢; omega
theorem nc_ (a : List UInt8) : before a a = false := by
 unfold before
 cases ha : bJ_ a <;> simp [ep_]
theorem oo_ (a b : List UInt8) (h : a ≠ b) : before a b = true ∨ before b a = true := by
 rcases Int.lt_trichotomy (dk_ a b) 0 with q | q | q
 ·exact .inl ((kq_ a b).1 q)
 ·exact absurd ((ey_ a b).1 q) h
 ·right
  unfold before
  unfold dk_ at q
  cases ha : bJ_ a <;> cases hb : bJ_ b <;> simp only [ha, hb, Bool.and_true, Bool.and_false, Bool.false_eq_true, if_true, if_false, bne_self_eq_false, Bool.and_self] at q ⊢
  ·unfold h5_ at q
   split at q
   ·simp at q
   ·split at q
    ·assumption
    ·simp at q
  ·simp
  ·simp at q
  ·unfold jT_ at q
   split at q
   ·omega
   ·split at q
    ·simpa using ‹_›
    ·simp at q
theorem kl_ : ∀ a b c : List (List UInt8), cf_ a b = true → cf_ b c = true → cf_ a c = true
 | [], [], _, h, _ => by simp [cf_] at h
 | _ :: _, [], _, h, _ => by simp [cf_] at h
 | [], _ :: _, [], _, h => by simp [cf_] at h
 | [], _ :: _, _ :: _, _, _ => rfl
 | _ :: _, _ :: _, [], _, h => by simp [cf_] at h
 | x :: a, y :: b, z :: c, h1, h2 => by
  simp only [cf_] at h1 h2 ⊢
  by_cases e1 : x = y
  ·subst e1
   rw [if_pos rfl] at h1
   by_cases e2 : x = z
   ·subst e2; rw [if_pos rfl] at h2 ⊢; exact kl_ a b c h1 h2
   ·rw [if_neg e2] at h2 ⊢; exact h2
  ·rw [if_neg e1] at h1
   by_cases e2 : y = z
   ·subst e2; rw [if_neg e1]; exact h1
   ·rw [if_neg e2] at h2
    have ht := nO_ x y z h1 h2
    have hne : ¬ x = z := by
     intro e; subst e
     rw [nc_] at ht; simp at ht
    rw [if_neg hne]; exact ht
theorem kk_ : ∀ a b : List (List UInt8), a ≠ b → cf_ a b = true ∨ cf_ b a = true
 | [], [], h => absurd rfl h
 | [], _ :: _, _ => .inl rfl
 | _ :: _, [], _ => .inr rfl
 | x :: a, y :: b, h => by
  simp only [cf_]
  by_cases e : x = y
  ·subst e
   rw [if_pos rfl, if_pos rfl]
   exact kk_ a b (fun q => h (by rw [q]))
  ·rw [if_neg e, if_neg (fun q => e q.symm)]
   exact oo_ x y e
theorem pw_ {n : List UInt8} {s : List (List UInt8)} {o : List UInt8} {os : List (List UInt8)} {p : List UInt8} {ps : List (List UInt8)} (h1 : dD_ n s o os = true) (h2 : dD_ o os p ps = true) : dD_ n s p ps = true := by
 unfold dD_ at h1 h2 ⊢
 by_cases e1 : n = o
 ·subst e1
  rw [if_pos rfl] at h1
  by_cases e2 : n = p
  ·subst e2; rw [if_pos rfl] at h2 ⊢; exact kl_ _ _ _ h1 h2
  ·rw [if_neg e2] at h2 ⊢; exact h2
 ·rw [if_neg e1] at h1
  by_cases e2 : o = p
  ·subst e2; rw [if_neg e1]; exact h1
  ·rw [if_neg e2] at h2
   have ht := iL_ n o p h1 h2
   have hne : ¬ n = p := by
    intro e; subst e
    rw [ep_] at ht; simp at ht
   rw [if_neg hne]; exact ht
theorem pj_ {n : List UInt8} {s : List (List UInt8)} {o : List UInt8} {os : List (List UInt8)} (h : ¬ (n = o ∧ s = os)) : dD_ n s o os = true ∨ dD_ o os n s = true := by
 unfold dD_
 by_cases e : n = o
 ·subst e
  rw [if_pos rfl, if_pos rfl]
  exact kk_ s os (fun q => h ⟨rfl, q⟩)
 ·rw [if_neg e, if_neg (fun q => e q.symm)]
  cases h1 : Op.bytesLess n o
  ·cases h2 : Op.bytesLess o n
   ·exact absurd (gY_ n o h1 h2) e
   ·exact .inr rfl
  ·exact .inl rfl
end Go.AW
namespace Go.Proofs.YtfplhbjggecnpaaGreatDoor
open Go.AW
set_option linter.unusedVariables false
set_option linter.unusedSimpArgs false
set_option maxRecDepth 4000
def eR_ (n : ByteArray) (s : List ByteArray) : Bool := bP_ n && be_ s
def Az_ : LC :=
 .seq (.ops [.s 4 (.mov (.const (.bool false)))]) (.seq (.ops [.m 5 0, .c1 6 140 5, .m 7 6, .g 8 7 true (.mov (.tmp 1)), .g 9 7 true (.call 143 [.tmp 8]), .pf 10 7 9, .m 4 10]) .ret)
def vX_ : LF := ⟨2, 11, Az_, [.tmp 4]⟩
theorem yC_ : at_ Tryz.prog Tryz.f135 vX_ := ah_
theorem eC_ (n : ByteArray) (s : List ByteArray) (hn : n.size ≤ 1048576) (hs : s.length ≤ 1048576) (h : List Row) : aa_ Tryz.prog 135 [.val (.string n), .list 0 1 (s.map ar_)] h (.val (.bool (eR_ n s))) := by
 refine aj_ mixed Tryz.func135 yC_ rfl rfl ?_ h
 simp (disch := omega) only [vX_, Az_, go_sem, reduceCtorEq, ↓reduceIte]
 repeat' (first
  | exact ae_ _ _
  | (refine ad_ ?_; first | rfl | (simp only [eR_, *, Bool.true_and, Bool.false_and]; done) | (simp [eR_, *]; done))
  | simp (disch := omega) only [go_sem, Nat.reduceEqDiff, ↓reduceIte]
  | (refine aa_.call (di_ _ hn _) ?_)
  | (refine aa_.q (di_ _ hn _) ?_)
  | (refine aa_.call (bN_ _ hs _) ?_)
  | (refine aa_.q (bN_ _ hs _) ?_)
  | ((first | (apply aR_; assumption) | (apply aQ_; assumption) | (apply a3_; assumption) | (apply a4_; assumption)); intro hb; try simp only [hb])
  | ((first | (apply aG_; assumption) | (apply aE_; assumption) | (apply aL_; assumption) | (apply aM_; assumption)); intro hb; try simp only [hb])
  | ((first | apply av_ | apply ay_ | apply ak_ | apply al_) <;> intro hb <;> (try simp only [hb]) <;> (first | have hp := a1_ hb | have hp := aZ_ hb | have hp := a0_ hb | have hp := a2_ hb | skip)))
def xD_ : LC :=
 .seq (.ops [.s 4 (.mov (.const (.bool false)))]) (.seq (.ops [.m 5 0, .c1 6 158 5, .m 7 6, .g 8 7 true (.mov (.tmp 1)), .g 9 7 true (.call 125 [.tmp 8]), .pf 10 7 9, .m 4 10]) .ret)
def vN_ : LF := ⟨2, 11, xD_, [.tmp 4]⟩
theorem Au_ : at_ Tryz.prog Tryz.f118 vN_ := ah_
theorem ei_ (n : ByteArray) (s : List ByteArray) (hn : n.size ≤ 1048576) (hs : s.length ≤ 1048576) (h : List Row) : aa_ Tryz.prog 118 [.val (.string n), .list 0 1 (s.map ar_)] h (.val (.bool (eR_ n s))) := by
 refine aj_ mixed Tryz.func118 Au_ rfl rfl ?_ h
 simp (disch := omega) only [vN_, xD_, go_sem, reduceCtorEq, ↓reduceIte]
 repeat' (first
  | exact ae_ _ _
  | (refine ad_ ?_; first | rfl | (simp only [eR_, *, Bool.true_and, Bool.false_and]; done) | (simp [eR_, *]; done))
  | simp (disch := omega) only [go_sem, Nat.reduceEqDiff, ↓reduceIte]
  | (refine aa_.call (b1_ _ hn _) ?_)
  | (refine aa_.q (b1_ _ hn _) ?_)
  | (refine aa_.call (cz_ _ hs _) ?_)
  | (refine aa_.q (cz_ _ hs _) ?_)
  | ((first | (apply aR_; assumption) | (apply aQ_; assumption) | (apply a3_; assumption) | (apply a4_; assumption)); intro hb; try simp only [hb])
  | ((first | (apply aG_; assumption) | (apply aE_; assumption) | (apply aL_; assumption) | (apply aM_; assumption)); intro hb; try simp only [hb])
  | ((first | apply av_ | apply ay_ | apply ak_ | apply al_) <;> intro hb <;> (try simp only [hb]) <;> (first | have hp := a1_ hb | have hp := aZ_ hb | have hp := a0_ hb | have hp := a2_ hb | skip)))
def cq_ (x : ac_) : Bool := eR_ x.Name x.Subs && decide ((x.Value.size : Int) ≤ 64)
def c88 : LC :=
 .seq (.ops [.s 1 (.box 112 (.tmp 0)), .s 2 (.mov (.const (.bool false)))]) (.seq (.ops [.fa 3 0 1, .ln 4 3, .fa 5 1 1, .ln 6 5, .c2 7 135 4 6, .m 8 7, .g 9 8 true (.fieldAddr 2 (.tmp 1)), .g 10 8 true (.load none (.tmp
 9)), .g 11 8 true (.lenStr (.tmp 10)), .g 12 8 true (.bin .leq false (.tmp 11) (.const (.int .i64 64))), .pf 13 8 12, .m 2 13]) .ret)
def zU_ : LF := ⟨1, 14, c88, [.tmp 2]⟩
theorem A2_ : at_ Tryz.prog Tryz.f88 zU_ := ah_
theorem lX_ (x : ac_) (hx : ac_.sz x ≤ 1048576) (h : List Row) : aa_ Tryz.prog 88 [.agg (ac_.cells x)] h (.val (.bool (cq_ x))) := by
 refine aj_ mixed Tryz.func88 A2_ rfl rfl ?_ h
 simp (disch := omega) only [zU_, c88, ac_.cells, go_sem, Nat.reduceEqDiff, Nat.reduceAdd, ↓reduceIte]
 repeat' (first
  | exact ae_ _ _
  | (refine ad_ ?_; first | rfl | (simp only [cq_, *, Bool.true_and, Bool.false_and]; done) | (simp [cq_, *]; done))
  | simp (disch := omega) only [go_sem, Nat.reduceEqDiff, ↓reduceIte]
  | (refine aa_.call (eC_ _ _ (ac_.sz_Name hx) (aJ_ (ac_.sz_Subs hx)) _) ?_)
  | (refine aa_.q (eC_ _ _ (ac_.sz_Name hx) (aJ_ (ac_.sz_Subs hx)) _) ?_)
  | ((first | (apply aR_; assumption) | (apply aQ_; assumption) | (apply a3_; assumption) | (apply a4_; assumption)); intro hb; try simp only [hb])
  | ((first | (apply aG_; assumption) | (apply aE_; assumption) | (apply aL_; assumption) | (apply aM_; assumption)); intro hb; try simp only [hb])
  | ((first | apply av_ | apply ay_ | apply ak_ | apply al_) <;> intro hb <;> (try simp only [hb]) <;> (first | have hp := a1_ hb | have hp := aZ_ hb | have hp := a0_ hb | have hp := a2_ hb | skip)))
def c78 : LC :=
 .seq (.ops [.s 1 (.box 112 (.tmp 0)), .s 2 (.mov (.const (.bool false)))]) (.seq (.ops [.fa 3 0 1, .ln 4 3, .fa 5 1 1, .ln 6 5, .c2 7 118 4 6, .m 8 7, .g 9 8 true (.fieldAddr 2 (.tmp 1)), .g 10 8 true (.load none (.tmp
 9)), .g 11 8 true (.lenStr (.tmp 10)), .g 12 8 true (.bin .leq false (.tmp 11) (.const (.int .i64 64))), .pf 13 8 12, .m 2 13]) .ret)
def xW_ : LF := ⟨1, 14, c78, [.tmp 2]⟩
theorem A7_ : at_ Tryz.prog Tryz.f78 xW_ := ah_
theorem lw_ (x : ac_) (hx : ac_.sz x ≤ 1048576) (h : List Row) : aa_ Tryz.prog 78 [.agg (ac_.cells x)] h (.val (.bool (cq_ x))) := by
 refine aj_ mixed Tryz.func78 A7_ rfl rfl ?_ h
 simp (disch := omega) only [xW_, c78, ac_.cells, go_sem, Nat.reduceEqDiff, Nat.reduceAdd, ↓reduceIte]
 repeat' (first
  | exact ae_ _ _
  | (refine ad_ ?_; first | rfl | (simp only [cq_, *, Bool.true_and, Bool.false_and]; done) | (simp [cq_, *]; done))
  | simp (disch := omega) only [go_sem, Nat.reduceEqDiff, ↓reduceIte]
  | (refine aa_.call (ei_ _ _ (ac_.sz_Name hx) (aJ_ (ac_.sz_Subs hx)) _) ?_)
  | (refine aa_.q (ei_ _ _ (ac_.sz_Name hx) (aJ_ (ac_.sz_Subs hx)) _) ?_)
  | ((first | (apply aR_; assumption) | (apply aQ_; assumption) | (apply a3_; assumption) | (apply a4_; assumption)); intro hb; try simp only [hb])
  | ((first | (apply aG_; assumption) | (apply aE_; assumption) | (apply aL_; assumption) | (apply aM_; assumption)); intro hb; try simp only [hb])
  | ((first | apply av_ | apply ay_ | apply ak_ | apply al_) <;> intro hb <;> (try simp only [hb]) <;> (first | have hp := a1_ hb | have hp := aZ_ hb | have hp := a0_ hb | have hp := a2_ hb | skip)))
theorem re_ (xs ys : List ByteArray) (k : Nat) (h1 : k < xs.length) (h2 : k < ys.length) : cf_ (bss (xs.drop k)) (bss (ys.drop k)) = if xs[k] = ys[k] then cf_ (bss (xs.drop (k + 1))) (bss (ys.drop (k + 1))) else before xs[k].data.toList ys[k].data.toList := by
 rw [List.drop_eq_getElem_cons h1, List.drop_eq_getElem_cons h2]
 simp only [bss, List.map_cons, cf_, lF_]
theorem mS_ (xs ys : List ByteArray) (k : Nat) (h : xs.length ≤ k ∨ ys.length ≤ k) (h1 : k ≤ xs.length) (h2 : k ≤ ys.length) : cf_ (bss (xs.drop k)) (bss (ys.drop k)) = decide ((xs.length : Int) < ys.length) := by
 rcases Nat.lt_or_ge k xs.length with q | q
 ·have : ys.length ≤ k := by omega
  rw [List.drop_eq_getElem_cons q, List.drop_eq_nil_of_le this]
  show false = _; symm; rw [decide_eq_false_iff_not]; omega
 ·rw [List.drop_eq_nil_of_le q]
  rcases Nat.lt_or_ge k ys.length with q2 | q2
  ·rw [List.drop_eq_getElem_cons q2]; show true = _; symm; rw [decide_eq_true_eq]; omega
  ·rw [List.drop_eq_nil_of_le q2]; show false = _; symm; rw [decide_eq_false_iff_not]; omega
def xI_ : LC :=
 .seq (.ops [.s 4 (.mov (.const (.bool false)))]) (.seq (.seq (.ops [.ki 5 0]) (.block 0 (.loop (.seq (.seq (.ops [.m 6 5, .m 7 0, .ll 8 7, .bb 9 .lss false 6 8, .m 10 9, .g 11 10 true (.mov (.tmp 5)), .g 12 10 true (.mov
 (.tmp 1)), .g 13 10 true (.lenSl (.tmp 12)), .g 14 10 true (.bin .lss false (.tmp 11) (.tmp 13)), .pf 15 10 14]) (.cond (.tmp 15) .skip (.exit 0))) (.seq (.block 1 (.seq (.dops [.m 18 0, .m 19 5, .ia 20 1 18 19, .ln 21
 20, .m 22 1, .m 23 5, .ia 24 1 22 23, .ln 25 24, .bb 26 .neq false 21 25]) (.cond (.tmp 26) (.seq (.dops [.m 27 0, .m 28 5, .ia 29 1 27 28, .ln 30 29, .m 31 1, .m 32 5, .ia 33 1 31 32, .ln 34 33, .c2 35 194 30 34, .m 4
 35]) .ret) .skip))) (.ops [.m 16 5, .bk 17 .add false 16 1, .m 5 17])))))) (.seq (.ops [.m 36 0, .ll 37 36, .m 38 1, .ll 39 38, .bb 40 .lss false 37 39, .m 4 40]) .ret))
def vj_ : LF := ⟨2, 41, xI_, [.tmp 4]⟩
theorem yD_ : at_ Tryz.prog Tryz.f159 vj_ := ah_
theorem fF_ (s os : List ByteArray) (hs : ap_ ByteArray.size s ≤ 1048576) (hos : ap_ ByteArray.size os ≤ 1048576) (h : List Row) :
 aa_ Tryz.prog 159 [.list 0 1 (s.map ar_), .list 0 1 (os.map ar_)] h (.val (.bool (cf_ (bss s) (bss os)))) := by
 refine aj_ mixed Tryz.func159 yD_ rfl rfl ?_ h
 have hl1 := aJ_ hs
 have hl2 := aJ_ hos
 simp (disch := omega) only [vj_, xI_, go_sem]
 refine aK_ (fun m t h => ∃ k : Nat, t 0 = .list 0 1 (s.map ar_) ∧ t 1 = .list 0 1 (os.map ar_) ∧ t 5 = .val (.int .i64 k) ∧ m = s.length - k ∧ k ≤ s.length ∧ k ≤ os.length ∧ cf_ (bss s) (bss os) = cf_ (bss (s.drop k)) (bss (os.drop k))) s.length ?_ ?_
 ·exact ⟨0, rfl, rfl, rfl, rfl, Nat.zero_le _, Nat.zero_le _, rfl⟩
 ·rintro J hJ m t h ⟨k, t1, t3, t9, rfl, hk, hk2, hS⟩
  by_cases hlt : k < s.length
  ·by_cases hlt2 : k < os.length
   ·rw [re_ s os k hlt hlt2] at hS
    by_cases e : s[k] = os[k]
    ·have e' : (s[k] = os[k]) = True := eq_true e
     simp (disch := omega) only [t1, t3, t9, hlt, hlt2, e', ar_, go_sem, Nat.reduceEqDiff, reduceCtorEq, ↓reduceIte]
     exact ⟨s.length - (k + 1), by omega, hJ _ _ _ ⟨k + 1, by simp [upd, t1], by simp [upd, t3], by simp [upd], rfl, by omega, by omega, by rw [hS, if_pos e]⟩⟩
    ·have e' : (s[k] = os[k]) = False := eq_false e
     simp (disch := omega) only [t1, t3, t9, hlt, hlt2, e', ar_, go_sem, Nat.reduceEqDiff, reduceCtorEq, ↓reduceIte]
     refine aa_.q (kg_ _ _ (g6_ hs (List.getElem_mem hlt)) (g6_ hos (List.getElem_mem hlt2)) _) ?_
     try simp (disch := omega) only [t1, t3, t9, go_sem, Nat.reduceEqDiff, Nat.reduceAdd, Nat.reduceLeDiff, reduceCtorEq, Int.reduceLT, Int.reduceLE, Int.reduceNeg, Int.reduceSub, Int.reduceAdd, Int.reduceToNat, ↓reduceIte]
     exact ad_ (by rw [hS, if_neg e])
   ·simp (disch := omega) only [t1, t3, t9, hlt, hlt2, go_sem, Nat.reduceEqDiff, reduceCtorEq, ↓reduceIte]
    exact ad_ (by rw [hS, mS_ s os k (.inr (by omega)) hk hk2, decide_eq_decide]; omega)
  ·simp (disch := omega) only [t1, t3, t9, hlt, go_sem, Nat.reduceEqDiff, reduceCtorEq, ↓reduceIte]
   exact ad_ (by rw [hS, mS_ s os k (.inl (by omega)) hk hk2, decide_eq_decide]; omega)
def zg_ : LC :=
 .seq (.ops [.s 4 (.mov (.const (.bool false)))]) (.seq (.ops [.m 5 0, .m 6 1, .c2 7 159 5 6, .m 4 7]) .ret)
def uH_ : LF := ⟨2, 8, zg_, [.tmp 4]⟩
theorem zv_ : at_ Tryz.prog Tryz.f119 uH_ := ah_
theorem jL_ (s os : List ByteArray) (hs : ap_ ByteArray.size s ≤ 1048576) (hos : ap_ ByteArray.size os ≤ 1048576) (h : List Row) : aa_ Tryz.prog 119 [.list 0 1 (s.map ar_), .list 0 1 (os.map ar_)] h (.val (.bool (cf_ (bss s) (bss os)))) := by
 refine aj_ mixed Tryz.func119 zv_ rfl rfl ?_ h
 simp (disch := omega) only [uH_, zg_, go_sem, Nat.reduceEqDiff, reduceCtorEq, ↓reduceIte]
 repeat' (first
  | exact ae_ _ _
  | simp (disch := omega) only [go_sem, ↓reduceIte]
  | (refine aa_.call (fF_ _ _ hs hos _) ?_)
  | (refine aa_.q (fF_ _ _ hs hos _) ?_)
  | ((first | (apply aG_; assumption) | (apply aE_; assumption) | (apply aL_; assumption) | (apply aM_; assumption)); intro hb; try simp only [hb])
  | ((first | apply ak_ | apply al_) <;> intro hb <;> (try simp only [hb]) <;> (first | have hp := a1_ hb | have hp := aZ_ hb | have hp := a0_ hb | have hp := a2_ hb | skip)))
def c79 : LC :=
 .seq (.ops [.s 8 (.mov (.const (.bool false)))]) (.seq (.ops [.m 9 0, .m 10 2, .bb 11 .lss false 9 10, .m 12 11, .g 13 12 false (.mov (.tmp 0)), .g 14 12 false (.mov (.tmp 2)), .g 15 12 false (.bin .eql false (.tmp 13)
 (.tmp 14)), .g 16 12 false (.mov (.tmp 15)), .g 17 16 true (.mov (.tmp 1)), .g 18 16 true (.mov (.tmp 3)), .g 19 16 true (.call 119 [.tmp 17, .tmp 18]), .g 20 12 false (.pick (.tmp 16) (.tmp 19) (.const (.bool false))),
 .pt 21 12 20, .m 8 21]) .ret)
def yS_ : LF := ⟨4, 22, c79, [.tmp 8]⟩
theorem AP_ : at_ Tryz.prog Tryz.f79 yS_ := ah_
theorem hD_ (n : ByteArray) (s : List ByteArray) (o : ByteArray) (os : List ByteArray) (hs : ap_ ByteArray.size s ≤ 1048576) (hos : ap_ ByteArray.size os ≤ 1048576) (h : List Row) :
 aa_ Tryz.prog 79 [.val (.string n), .list 0 1 (s.map ar_), .val (.string o), .list 0 1 (os.map ar_)] h (.val (.bool (dD_ n.data.toList (bss s) o.data.toList (bss os)))) := by
 refine aj_ mixed Tryz.func79 AP_ rfl rfl ?_ h
 simp (disch := omega) only [yS_, c79, l2_, go_sem, Nat.reduceEqDiff, reduceCtorEq, ↓reduceIte]
 by_cases hn : n = o
 ·subst hn
  have hL : dD_ n.data.toList (bss s) n.data.toList (bss os) = cf_ (bss s) (bss os) := by unfold dD_; rw [if_pos rfl]
  rw [hL]
  simp (disch := omega) only [ep_, go_sem, Nat.reduceEqDiff, reduceCtorEq, ↓reduceIte]
  refine aa_.call (jL_ _ _ hs hos _) ?_
  simp (disch := omega) only [go_sem, Nat.reduceEqDiff, ↓reduceIte]
  exact ae_ _ _
 ·have hn' : (n = o) = False := eq_false hn
  have hL : dD_ n.data.toList (bss s) o.data.toList (bss os) = Op.bytesLess n.data.toList o.data.toList := by unfold dD_; rw [if_neg (fun q => hn (by rwa [lF_] at q))]
  rw [hL]
  cases hb : Op.bytesLess n.data.toList o.data.toList <;> simp (disch := omega) only [hn', go_sem, Nat.reduceEqDiff, reduceCtorEq, ↓reduceIte] <;> exact ae_ _ _
def bL_ (a b : ac_) : Bool := dD_ a.Name.data.toList (bss a.Subs) b.Name.data.toList (bss b.Subs)
def dm_ : Option ac_ → List ac_ → Bool
 | _, [] => true
 | p, x :: r => cq_ x && (match p with | some q => bL_ q x | none => true) && dm_ (some x) r
def dZ_ (ns : List ac_) (k : Nat) : Option ac_ := if 0 < k then ns[k - 1]? else none
theorem kS_ {ns : List ac_} {k : Nat} (h0 : 0 < k) (h : k - 1 < ns.length) : dZ_ ns k = some ns[k - 1] := by unfold dZ_; rw [if_pos h0, List.getElem?_eq_getElem h]
theorem mE_ (ns : List ac_) {k : Nat} (hlt : k < ns.length) : dm_ (dZ_ ns k) (ns.drop k) = (cq_ ns[k] && (match dZ_ ns k with | some q => bL_ q ns[k] | none => true) && dm_ (dZ_ ns (k + 1)) (ns.drop (k + 1))) := by
 rw [List.drop_eq_getElem_cons hlt, kS_ (Nat.succ_pos k) (by simpa using hlt)]; rfl
def aP_ (x : af_) : Bool := decide ((x.Nodes.length : Int) ≤ 120) && dm_ none x.Nodes
theorem oJ_ (n : List UInt8) (s : List (List UInt8)) (o : List UInt8) (os : List (List UInt8)) : decide (0 ≤ f9_ n s o os) = !dD_ n s o os := by
 have h := on_ n s o os
 cases hb : dD_ n s o os with
 | true => rw [hb] at h; have := h.2 rfl; simp; omega
 | false =>
  have : ¬ f9_ n s o os < 0 := fun q => by have := h.1 q; rw [hb] at this; cases this
  simp; omega
def c47 : LC :=
 .seq (.ops [.s 1 (.box 30 (.tmp 0)), .s 2 (.mov (.const (.bool false)))]) (.seq (.seq (.ops [.fa 5 0 1, .ln 6 5, .ll 7 6, .bk 8 .gtr false 7 120]) (.cond (.tmp 8) (.seq (.ops [.s 2 (.mov (.const (.bool false)))]) .ret)
 .skip)) (.seq (.seq (.ops [.fa 9 0 1, .ln 10 9, .ll 11 10, .ki 12 0]) (.block 0 (.loop (.seq (.ops [.bb 13 .lss false 12 11]) (.seq (.cond (.tmp 13) .skip (.exit 0)) (.seq (.block 1 (.seq (.ops [.m 14 12, .ia 15 3 10 12,
 .ld 16 3 15, .s 4 (.alloc 112 (.agg #[.string ⟨#[]⟩, .slice none 0 0, .string ⟨#[]⟩])), .m 3 14, .st 3 4 16]) (.seq (.dops [.ld 17 3 4, .c1 18 88 17, .nt 19 18, .m 20 19, .g 21 20 false (.mov (.tmp 3)), .g 22 20 false
 (.bin .gtr false (.tmp 21) (.const (.int .i64 0))), .g 23 20 false (.mov (.tmp 22)), .g 24 23 true (.fieldAddr 0 (.tmp 1)), .g 25 23 true (.load none (.tmp 24)), .g 26 23 true (.mov (.tmp 3)), .g 27 23 true (.bin .sub
 false (.tmp 26) (.const (.int .i64 1))), .g 28 23 true (.indexAddr 3 (.tmp 25) (.tmp 27)), .g 29 23 true (.fieldAddr 0 (.tmp 28)), .g 30 23 true (.load none (.tmp 29)), .g 31 23 true (.fieldAddr 0 (.tmp 1)), .g 32 23
 true (.load none (.tmp 31)), .g 33 23 true (.mov (.tmp 3)), .g 34 23 true (.bin .sub false (.tmp 33) (.const (.int .i64 1))), .g 35 23 true (.indexAddr 3 (.tmp 32) (.tmp 34)), .g 36 23 true (.fieldAddr 1 (.tmp 35)), .g
 37 23 true (.load none (.tmp 36)), .g 38 23 true (.fieldAddr 0 (.tmp 4)), .g 39 23 true (.load none (.tmp 38)), .g 40 23 true (.fieldAddr 1 (.tmp 4)), .g 41 23 true (.load none (.tmp 40)), .g 42 23 true (.call 89 [.tmp
 30, .tmp 37, .tmp 39, .tmp 41]), .g 43 23 true (.bin .geq false (.tmp 42) (.const (.int .i64 0))), .g 44 20 false (.pick (.tmp 23) (.tmp 43) (.const (.bool false))), .pt 45 20 44]) (.cond (.tmp 45) (.seq (.ops [.s 2
 (.mov (.const (.bool false)))]) .ret) .skip)))) (.ops [.bk 46 .add false 12 1, .m 12 46]))))))) (.seq (.ops [.s 2 (.mov (.const (.bool true)))]) .ret)))
def tQ_ : LF := ⟨1, 47, c47, [.tmp 2]⟩
theorem AS_ : at_ Tryz.prog Tryz.f47 tQ_ := ah_
def c41 : LC :=
 .seq (.ops [.s 1 (.box 30 (.tmp 0)), .s 2 (.mov (.const (.bool false)))]) (.seq (.seq (.ops [.fa 5 0 1, .ln 6 5, .ll 7 6, .bk 8 .gtr false 7 120]) (.cond (.tmp 8) (.seq (.ops [.s 2 (.mov (.const (.bool false)))]) .ret)
 .skip)) (.seq (.seq (.ops [.ki 3 0]) (.block 0 (.loop (.seq (.seq (.ops [.m 9 3, .fa 10 0 1, .ln 11 10, .ll 12 11, .bb 13 .lss false 9 12]) (.cond (.tmp 13) .skip (.exit 0))) (.seq (.block 1 (.seq (.ops [.fa 16 0 1, .ln
 17 16, .m 18 3, .ia 19 3 17 18, .ld 20 3 19, .s 4 (.alloc 112 (.agg #[.string ⟨#[]⟩, .slice none 0 0, .string ⟨#[]⟩])), .st 3 4 20]) (.seq (.dops [.ld 21 3 4, .c1 22 78 21, .nt 23 22, .m 24 23, .g 25 24 false (.mov (.tmp
 3)), .g 26 24 false (.bin .gtr false (.tmp 25) (.const (.int .i64 0))), .g 27 24 false (.mov (.tmp 26)), .g 28 27 true (.fieldAddr 0 (.tmp 1)), .g 29 27 true (.load none (.tmp 28)), .g 30 27 true (.mov (.tmp 3)), .g 31
 27 true (.bin .sub false (.tmp 30) (.const (.int .i64 1))), .g 32 27 true (.indexAddr 3 (.tmp 29) (.tmp 31)), .g 33 27 true (.fieldAddr 0 (.tmp 32)), .g 34 27 true (.load none (.tmp 33)), .g 35 27 true (.fieldAddr 0
 (.tmp 1)), .g 36 27 true (.load none (.tmp 35)), .g 37 27 true (.mov (.tmp 3)), .g 38 27 true (.bin .sub false (.tmp 37) (.const (.int .i64 1))), .g 39 27 true (.indexAddr 3 (.tmp 36) (.tmp 38)), .g 40 27 true
 (.fieldAddr 1 (.tmp 39)), .g 41 27 true (.load none (.tmp 40)), .g 42 27 true (.fieldAddr 0 (.tmp 4)), .g 43 27 true (.load none (.tmp 42)), .g 44 27 true (.fieldAddr 1 (.tmp 4)), .g 45 27 true (.load none (.tmp 44)), .g
 46 27 true (.call 79 [.tmp 34, .tmp 41, .tmp 43, .tmp 45]), .g 47 27 true (.un .not (.tmp 46)), .g 48 24 false (.pick (.tmp 27) (.tmp 47) (.const (.bool false))), .pt 49 24 48]) (.cond (.tmp 49) (.seq (.ops [.s 2 (.mov
 (.const (.bool false)))]) .ret) .skip)))) (.ops [.m 14 3, .bk 15 .add false 14 1, .m 3 15])))))) (.seq (.ops [.s 2 (.mov (.const (.bool true)))]) .ret)))
def td_ : LF := ⟨1, 50, c41, [.tmp 2]⟩
theorem BD_ : at_ Tryz.prog Tryz.f41 td_ := ah_
theorem io_ (x : af_) (hx : af_.sz x ≤ 1048576) (h : List Row) : aa_ Tryz.prog 47 [.agg (af_.cells x)] h (.val (.bool (aP_ x))) := by
 refine aj_ mixed Tryz.func47 AS_ rfl rfl ?_ h
 have hs := af_.sz_Nodes hx
 have hl := aJ_ hs
 have hm : ∀ n ∈ x.Nodes, ac_.sz n ≤ 1048576 := fun n hn => dH_ hs hn
 by_cases h4 : (x.Nodes.length : Int) ≤ 120
 case neg =>
  have h4' : ((120 : Int) < x.Nodes.length) = True := eq_true (by omega)
  simp (disch := omega) only [tQ_, c47, af_.cells, h4', go_sem, Nat.reduceEqDiff, ↓reduceIte]
  exact ad_ (by simp [aP_, h4])
 have h4' : ((120 : Int) < x.Nodes.length) = False := eq_false (by omega)
 have hT : aP_ x = dm_ none x.Nodes := by unfold aP_; rw [decide_eq_true h4]; rfl
 rw [hT]
 simp (disch := omega) only [tQ_, c47, af_.cells, h4', go_sem, Nat.reduceEqDiff, ↓reduceIte]
 refine aK_ (fun n t h => ∃ k : Nat, t 1 = .ptr 0 1 0 0 ∧ t 10 = .list 0 3 (x.Nodes.map ac_.cells) ∧ t 11 = .val (.int .i64 x.Nodes.length) ∧ t 12 = .val (.int .i64 k) ∧ h[0]? = some ⟨30, 1, [[.list 0 3 (x.Nodes.map ac_.cells)]]⟩ ∧ n = x.Nodes.length - k ∧ k ≤ x.Nodes.length ∧ dm_ none x.Nodes = dm_ (dZ_ x.Nodes k) (x.Nodes.drop k)) x.Nodes.length ⟨0, rfl, rfl, rfl, rfl, rfl, rfl, Nat.zero_le _, rfl⟩ ?_
 rintro J hJ n t h ⟨k, t1, t10, t11, t12, o0, rfl, hk, hS⟩
 have w0 := fun l => aC_ (l := l) o0
 by_cases hlt : k < x.Nodes.length
 ·rw [mE_ _ hlt] at hS
  have hb := hm _ (List.getElem_mem hlt)
  have hb1 := ac_.sz_Name hb
  have hb2 := ac_.sz_Subs hb
  simp (disch := omega) only [t10, t11, t12, hlt, ac_.cells, go_sem, Nat.reduceEqDiff, Nat.reduceAdd, ↓reduceIte]
  refine aa_.q (lX_ x.Nodes[k] hb _) ?_
  by_cases q1 : cq_ x.Nodes[k] = true
  case neg =>
   have q1' : cq_ x.Nodes[k] = false := by simpa using q1
   simp (disch := omega) only [q1', go_sem, Nat.reduceEqDiff, ↓reduceIte]
   exact ad_ (by rw [hS, q1']; rfl)
  by_cases hk0 : 0 < k
  ·have hlt1 : k - 1 < x.Nodes.length := by omega
   have hk0' : (0 < (k : Int)) = True := eq_true (by omega)
   have hkp : (k : Int) - 1 = ((k - 1 : Nat) : Int) := by omega
   have hb3 := hm _ (List.getElem_mem hlt1)
   rw [kS_ hk0 hlt1] at hS
   dsimp only at hS
   simp (disch := omega) only [t1, w0, q1, hk0', hkp, ac_.cells, aB_, go_sem, Nat.reduceEqDiff, Nat.reduceAdd, Nat.reduceLeDiff, ↓reduceIte]
   refine aa_.q (dp_ _ _ _ _ (ac_.sz_Subs hb3) hb2 _) ?_
   by_cases q2 : bL_ x.Nodes[k - 1] x.Nodes[k] = true
   ·have q2n := q2
    unfold bL_ at q2n
    have q2n : (0 ≤ f9_ (x.Nodes[k - 1]).Name.data.toList (bss (x.Nodes[k - 1]).Subs) (x.Nodes[k]).Name.data.toList (bss (x.Nodes[k]).Subs)) = False := eq_false (by have := oJ_ (x.Nodes[k - 1]).Name.data.toList (bss (x.Nodes[k - 1]).Subs) (x.Nodes[k]).Name.data.toList (bss (x.Nodes[k]).Subs); rw [q2n] at this; simpa using this)
    simp (disch := omega) only [t12, q2n, go_sem, Nat.reduceEqDiff, ↓reduceIte]
    exact ⟨x.Nodes.length - (k + 1), by omega, hJ _ _ _ ⟨k + 1, by simp [upd, t1], by simp [upd, t10], by simp [upd, t11], by simp [upd], w0 _, rfl, by omega, by rw [hS, q1, q2]; rfl⟩⟩
   ·have q2' : bL_ x.Nodes[k - 1] x.Nodes[k] = false := by simpa using q2
    have q2n := q2'
    unfold bL_ at q2n
    have q2n : (0 ≤ f9_ (x.Nodes[k - 1]).Name.data.toList (bss (x.Nodes[k - 1]).Subs) (x.Nodes[k]).Name.data.toList (bss (x.Nodes[k]).Subs)) = True := eq_true (by have := oJ_ (x.Nodes[k - 1]).Name.data.toList (bss (x.Nodes[k - 1]).Subs) (x.Nodes[k]).Name.data.toList (bss (x.Nodes[k]).Subs); rw [q2n] at this; simpa using this)
    simp (disch := omega) only [q2n, go_sem, ↓reduceIte]
    exact ad_ (by rw [hS, q1, q2']; rfl)
  ·have hk0' : (0 < (k : Int)) = False := eq_false (by omega)
   have hp : dZ_ x.Nodes k = none := by unfold dZ_; rw [if_neg hk0]
   rw [hp] at hS
   simp (disch := omega) only [t12, q1, hk0', go_sem, Nat.reduceEqDiff, ↓reduceIte]
   exact ⟨x.Nodes.length - (k + 1), by omega, hJ _ _ _ ⟨k + 1, by simp [upd, t1], by simp [upd, t10], by simp [upd, t11], by simp [upd], w0 _, rfl, by omega, by rw [hS, q1]; rfl⟩⟩
 ·simp (disch := omega) only [t11, t12, hlt, go_sem, ↓reduceIte]
  exact ad_ (by rw [hS, List.drop_eq_nil_of_le (by omega)]; cases dZ_ x.Nodes k <;> rfl)
theorem f5_ (x : af_) (hx : af_.sz x ≤ 1048576) (h : List Row) : aa_ Tryz.prog 41 [.agg (af_.cells x)] h (.val (.bool (aP_ x))) := by
 refine aj_ mixed Tryz.func41 BD_ rfl rfl ?_ h
 have hs := af_.sz_Nodes hx
 have hl := aJ_ hs
 have hm : ∀ n ∈ x.Nodes, ac_.sz n ≤ 1048576 := fun n hn => dH_ hs hn
 by_cases h4 : (x.Nodes.length : Int) ≤ 120
 case neg =>
  have h4' : ((120 : Int) < x.Nodes.length) = True := eq_true (by omega)
  simp (disch := omega) only [td_, c41, af_.cells, h4', go_sem, Nat.reduceEqDiff, ↓reduceIte]
  exact ad_ (by simp [aP_, h4])
 have h4' : ((120 : Int) < x.Nodes.length) = False := eq_false (by omega)
 have hT : aP_ x = dm_ none x.Nodes := by unfold aP_; rw [decide_eq_true h4]; rfl
 rw [hT]
 simp (disch := omega) only [td_, c41, af_.cells, h4', go_sem, Nat.reduceEqDiff, ↓reduceIte]
 refine aK_ (fun n t h => ∃ k : Nat, t 1 = .ptr 0 1 0 0 ∧ t 3 = .val (.int .i64 k) ∧ h[0]? = some ⟨30, 1, [[.list 0 3 (x.Nodes.map ac_.cells)]]⟩ ∧ n = x.Nodes.length - k ∧ k ≤ x.Nodes.length ∧ dm_ none x.Nodes = dm_ (dZ_ x.Nodes k) (x.Nodes.drop k)) x.Nodes.length ⟨0, rfl, rfl, rfl, rfl, Nat.zero_le _, rfl⟩ ?_
 rintro J hJ n t h ⟨k, t1, t3, o0, rfl, hk, hS⟩
 have w0 := fun l => aC_ (l := l) o0
 by_cases hlt : k < x.Nodes.length
 ·rw [mE_ _ hlt] at hS
  have hb := hm _ (List.getElem_mem hlt)
  have hb1 := ac_.sz_Name hb
  have hb2 := ac_.sz_Subs hb
  simp (disch := omega) only [t1, t3, o0, hlt, ac_.cells, go_sem, Nat.reduceEqDiff, Nat.reduceAdd, ↓reduceIte]
  refine aa_.q (lw_ x.Nodes[k] hb _) ?_
  by_cases q1 : cq_ x.Nodes[k] = true
  case neg =>
   have q1' : cq_ x.Nodes[k] = false := by simpa using q1
   simp (disch := omega) only [q1', go_sem, Nat.reduceEqDiff, ↓reduceIte]
   exact ad_ (by rw [hS, q1']; rfl)
  by_cases hk0 : 0 < k
  ·have hlt1 : k - 1 < x.Nodes.length := by omega
   have hk0' : (0 < (k : Int)) = True := eq_true (by omega)
   have hkp : (k : Int) - 1 = ((k - 1 : Nat) : Int) := by omega
   have hb3 := hm _ (List.getElem_mem hlt1)
   rw [kS_ hk0 hlt1] at hS
   dsimp only at hS
   simp (disch := omega) only [t1, t3, w0, q1, hk0', hkp, ac_.cells, aB_, go_sem, Nat.reduceEqDiff, Nat.reduceAdd, Nat.reduceLeDiff, ↓reduceIte]
   refine aa_.q (hD_ _ _ _ _ (ac_.sz_Subs hb3) hb2 _) ?_
   by_cases q2 : bL_ x.Nodes[k - 1] x.Nodes[k] = true
   ·have q2n := q2
    unfold bL_ at q2n
    skip
    simp (disch := omega) only [t3, q2n, go_sem, Nat.reduceEqDiff, ↓reduceIte]
    exact ⟨x.Nodes.length - (k + 1), by omega, hJ _ _ _ ⟨k + 1, by simp [upd, t1], by simp [upd], w0 _, rfl, by omega, by rw [hS, q1, q2]; rfl⟩⟩
   ·have q2' : bL_ x.Nodes[k - 1] x.Nodes[k] = false := by simpa using q2
    have q2n := q2'
    unfold bL_ at q2n
    skip
    simp (disch := omega) only [q2n, go_sem, ↓reduceIte]
    exact ad_ (by rw [hS, q1, q2']; rfl)
  ·have hk0' : (0 < (k : Int)) = False := eq_false (by omega)
   have hp : dZ_ x.Nodes k = none := by unfold dZ_; rw [if_neg hk0]
   rw [hp] at hS
   simp (disch := omega) only [t3, q1, hk0', go_sem, Nat.reduceEqDiff, ↓reduceIte]
   exact ⟨x.Nodes.length - (k + 1), by omega, hJ _ _ _ ⟨k + 1, by simp [upd, t1], by simp [upd], w0 _, rfl, by omega, by rw [hS, q1]; rfl⟩⟩
 ·simp (disch := omega) only [t1, t3, o0, hlt, go_sem, Nat.reduceEqDiff, ↓reduceIte]
  exact ad_ (by rw [hS, List.drop_eq_nil_of_le (by omega)]; cases dZ_ x.Nodes k <;> rfl)
theorem sP_ (q : Bool) (n : Nat) : a8_ .shr q (.val (.int .u64 (n : Int))) (.val (.int .u64 1)) = some (.val (.int .u64 ((n / 2 : Nat) : Int))) := by
 have e : a8_ .shr q (.val (.int .u64 (n : Int))) (.val (.int .u64 1)) = some (.val (.int .u64 ((n : Int).fdiv (2 ^ 1)))) := rfl
 rw [e]
 congr 3
 rw [Int.fdiv_eq_ediv_of_nonneg _ (by decide)]
 omega
theorem pH_ {n : Int} (h1 : 0 ≤ n) (h2 : n ≤ 18446744073709551615) : IntKind.u64.wrap n = n := by
 rw [IntKind.wrap_u64]; omega
def yA_ : LC :=
 .seq (.ops [.s 4 (.box 112 (.tmp 1)), .ki 6 0, .s 7 (.mov (.const (.bool false)))]) (.seq (.ops [.m 12 0, .ll 13 12, .m 8 13]) (.seq (.ops [.m 14 8, .ki 9 0, .m 10 14]) (.seq (.block 0 (.loop (.seq (.seq (.ops [.m 15 9,
 .m 16 10, .bb 17 .lss false 15 16]) (.cond (.tmp 17) .skip (.exit 0))) (.block 1 (.seq (.ops [.m 18 9, .m 19 10, .bb 20 .add false 18 19, .s 21 (.convInt .u64 (.tmp 20)), .s 22 (.bin .shr false (.tmp 21) (.const (.int
 .u64 1))), .s 23 (.convInt .i64 (.tmp 22)), .m 11 23]) (.seq (.dops [.m 24 2, .m 25 0, .m 26 11, .ia 27 3 25 26, .ld 28 3 27, .ld 29 3 4, .s 30 (.callv (.tmp 24) [.tmp 28, .tmp 29]), .bk 31 .lss false 30 0]) (.cond (.tmp
 31) (.ops [.m 32 11, .bk 33 .add false 32 1, .m 9 33]) (.ops [.m 34 11, .m 10 34])))))))) (.seq (.dops [.m 35 9, .m 36 9, .m 37 8, .bb 38 .lss false 36 37, .m 39 38, .g 40 39 true (.mov (.tmp 2)), .g 41 39 true (.mov
 (.tmp 0)), .g 42 39 true (.mov (.tmp 9)), .g 43 39 true (.indexAddr 3 (.tmp 41) (.tmp 42)), .g 44 39 true (.load (some 3) (.tmp 43)), .g 45 39 true (.load (some 3) (.tmp 4)), .g 46 39 true (.callv (.tmp 40) [.tmp 44,
 .tmp 45]), .g 47 39 true (.bin .eql false (.tmp 46) (.const (.int .i64 0))), .pf 48 39 47, .m 6 35, .m 7 48]) .ret))))
def uZ_ : LF := ⟨3, 49, yA_, [.tmp 6, .tmp 7]⟩
theorem AK_ : at_ Tryz.prog Tryz.f210 uZ_ := ah_
theorem eJ_ (hs : List ac_) (tg : ac_) (c : ac_ → ac_ → Int) (g m : Nat) (hx : hs.length ≤ 1048576) (hm : m ≤ hs.length) (hpart : ∀ (i : Nat) (h : i < hs.length), (c hs[i] tg < 0 ↔ i < m)) (hc : ck_ Tryz.prog g = true)
 (hp : ∀ x ∈ hs, ∀ h, aa_ Tryz.prog g [.agg (ac_.cells x), .agg (ac_.cells tg)] h (.val (.int .i64 (c x tg)))) (fd : Bool) (hfd : fd = if h : m < hs.length then decide (c hs[m] tg = 0) else false) (h : List Row) :
 aa_ Tryz.prog 210 [.list 0 3 (hs.map ac_.cells), .agg (ac_.cells tg), .fn g [] []] h (.tup [.val (.int .i64 m), .val (.bool fd)]) := by
 refine aj_ mixed Tryz.func210 AK_ rfl rfl ?_ h
 simp only [ac_.cells] at hp
 simp (disch := omega) only [uZ_, yA_, ac_.cells, go_sem, Nat.reduceEqDiff, Nat.reduceAdd, reduceCtorEq, ↓reduceIte]
 refine aK_ (fun n t h => ∃ (i j : Nat), t 0 = .list 0 3 (hs.map ac_.cells) ∧ t 2 = .fn g [] [] ∧ t 4 = .ptr 0 1 0 0 ∧ h[0]? = some ⟨112, 3, [[.val (.string tg.Name), .list 0 1 (tg.Subs.map ar_), .val (.string tg.Value)]]⟩ ∧ t 8 = .val (.int .i64 hs.length) ∧ t 9 = .val (.int .i64 i) ∧ t 10 = .val (.int .i64 j) ∧ n = j - i ∧ i ≤ m ∧ m ≤ j ∧ j ≤ hs.length) hs.length ⟨0, hs.length, rfl, rfl, rfl, rfl, rfl, rfl, rfl, rfl, Nat.zero_le _, hm, Nat.le_refl _⟩ ?_
 rintro J hJ n t h ⟨i, j, t0, t2, t4, o0, t8, t9, t10, rfl, him, hmj, hj⟩
 by_cases hij : i < j
 ·have e1 : ((i : Int) + (j : Int)) = ((i + j : Nat) : Int) := by omega
  have hmid : (i + j) / 2 < hs.length := by omega
  have hq := hpart ((i + j) / 2) hmid
  simp (disch := omega) only [t0, t2, t4, o0, t9, t10, hij, e1, pH_, sP_, hc, ac_.cells, go_sem, Nat.reduceEqDiff, Nat.reduceAdd, reduceCtorEq, ↓reduceIte]
  first | refine aa_.q (hp hs[(i + j) / 2] (List.getElem_mem hmid) _) ?_ | refine aa_.call (hp hs[(i + j) / 2] (List.getElem_mem hmid) _) ?_
  by_cases hl : c hs[(i + j) / 2] tg < 0
  ·simp (disch := omega) only [hl, go_sem, Nat.reduceEqDiff, ↓reduceIte]
   exact ⟨j - ((i + j) / 2 + 1), by omega, hJ _ _ _ ⟨(i + j) / 2 + 1, j, by simp [upd, t0], by simp [upd, t2], by simp [upd, t4], o0, by simp [upd, t8], by simp [upd], by simp [upd, t10], rfl, by have := hq.1 hl; omega, hmj, hj⟩⟩
  ·have hnm : ¬ ((i + j) / 2 < m) := fun q => hl (hq.2 q)
   simp (disch := omega) only [hl, go_sem, Nat.reduceEqDiff, ↓reduceIte]
   exact ⟨(i + j) / 2 - i, by omega, hJ _ _ _ ⟨i, (i + j) / 2, by simp [upd, t0], by simp [upd, t2], by simp [upd, t4], o0, by simp [upd, t8], by simp [upd, t9], by simp [upd], rfl, him, by omega, by omega⟩⟩
 ·have him' : i = m := by omega
  by_cases hml : m < hs.length
  ·have hil : i < hs.length := by omega
   subst him'
   rw [dif_pos hml] at hfd
   simp (disch := omega) only [t0, t2, t4, o0, t8, t9, t10, hij, hil, hc, ac_.cells, go_sem, Nat.reduceEqDiff, Nat.reduceAdd, reduceCtorEq, ↓reduceIte]
   first | refine aa_.q (hp hs[i] (List.getElem_mem hil) _) ?_ | refine aa_.call (hp hs[i] (List.getElem_mem hil) _) ?_
   simp (disch := omega) only [go_sem]
   rw [hfd]
   exact e6_ _ _ rfl
  ·have hil : ¬ i < hs.length := by omega
   subst him'
   rw [dif_neg hml] at hfd
   simp (disch := omega) only [t8, t9, t10, hij, hil, go_sem, Nat.reduceEqDiff, ↓reduceIte]
   rw [hfd]
   exact e6_ _ _ rfl
theorem fP_ {a b c : ac_} (h1 : bL_ a b = true) (h2 : bL_ b c = true) : bL_ a c = true := pw_ h1 h2
theorem fp_ : ∀ (r : List ac_) (p : Option ac_), dm_ p r = true → r.Pairwise (fun a b => bL_ a b = true) ∧ (∀ q, p = some q → ∀ x ∈ r, bL_ q x = true) ∧ ∀ x ∈ r, cq_ x = true
 | [], p, _ => ⟨List.Pairwise.nil, fun _ _ x hx => by simp at hx, fun x hx => by simp at hx⟩
 | a :: r, p, h => by
  simp only [dm_, Bool.and_eq_true] at h
  obtain ⟨h1, h2, h3⟩ := fp_ r (some a) h.2
  refine ⟨List.pairwise_cons.2 ⟨h2 a rfl, h1⟩, ?_, ?_⟩
  ·rintro q rfl x hx
   rcases List.mem_cons.1 hx with e | e
   ·subst e; exact h.1.2
   ·exact fP_ h.1.2 (h2 a rfl x e)
  ·intro x hx
   rcases List.mem_cons.1 hx with e | e
   ·subst e; exact h.1.1
   ·exact h3 x e
theorem e8_ {x : af_} (h : aP_ x = true) : x.Nodes.Pairwise (fun a b => bL_ a b = true) := by
 simp only [aP_, Bool.and_eq_true] at h
 exact (fp_ _ _ h.2).1
theorem k5_ {x : af_} (h : aP_ x = true) : ∀ n ∈ x.Nodes, cq_ n = true := by
 simp only [aP_, Bool.and_eq_true] at h
 exact (fp_ _ _ h.2).2.2
def eT_ (n : ByteArray) (s : List ByteArray) (a : ac_) : Bool := bL_ a ⟨n, s, txt []⟩
def bo_ (ns : List ac_) (n : ByteArray) (s : List ByteArray) : Nat := (ns.takeWhile (eT_ n s)).length
theorem j8_ (ns : List ac_) (n : ByteArray) (s : List ByteArray) : bo_ ns n s ≤ ns.length := by
 unfold bo_
 exact List.Sublist.length_le (List.takeWhile_sublist _)
theorem ig_ {α : Type} (p : α → Bool) : ∀ (l : List α) (hmono : ∀ (i j : Nat) (hi : i < l.length) (hj : j < l.length), i ≤ j → p l[j] = true → p l[i] = true) (i : Nat) (h : i < l.length), p l[i] = true ↔ i < (l.takeWhile p).length
 | [], _, i, h => by simp at h
 | a :: l, hm, i, h => by
  by_cases q : p a = true
  ·rw [List.takeWhile_cons_of_pos q]
   cases i with
   | zero => simp [q]
   | succ i =>
    simp only [List.getElem_cons_succ, lc_, Nat.add_lt_add_iff_right]
    exact ig_ p l (fun a b ha hb hab hp => hm (a + 1) (b + 1) (by simpa using ha) (by simpa using hb) (by omega) hp) i (by simpa using h)
  ·rw [List.takeWhile_cons_of_neg q]
   simp only [ln_, Nat.not_lt_zero, iff_false]
   intro hp
   exact q (hm 0 i (by simp) h (Nat.zero_le _) hp)
theorem j2_ {x : af_} (h : aP_ x = true) (n : ByteArray) (s : List ByteArray) (i : Nat) (hi : i < x.Nodes.length) : eT_ n s x.Nodes[i] = true ↔ i < bo_ x.Nodes n s := by
 refine ig_ (eT_ n s) x.Nodes (fun a b ha hb hab hp => ?_) i hi
 rcases Nat.lt_or_eq_of_le hab with q | q
 ·exact fP_ (List.pairwise_iff_getElem.1 (e8_ h) a b ha hb q) hp
 ·subst q; exact hp
def fz_ (n : ByteArray) (s : List ByteArray) (a : ac_) : Bool := decide (a.Name = n) && ct_ a.Subs s
def bB_ (ns : List ac_) (n : ByteArray) (s : List ByteArray) : Bool := match ns[bo_ ns n s]? with | some a => fz_ n s a | none => false
theorem iG_ : ∀ xs ys : List ByteArray, ct_ xs ys = true ↔ xs = ys
 | [], [] => by simp [ct_, ex_]
 | [], _ :: _ => by simp [ct_, ex_]
 | _ :: _, [] => by simp [ct_, ex_]
 | x :: xs, y :: ys => by
  have := iG_ xs ys
  simp only [ct_, ex_, Bool.and_eq_true, eqS, decide_eq_true_eq, List.cons.injEq] at this ⊢
  rw [this]
theorem oB_ (n : ByteArray) (s : List ByteArray) (a : ac_) : decide (f9_ a.Name.data.toList (bss a.Subs) n.data.toList (bss s) = 0) = fz_ n s a := by
 rw [Bool.eq_iff_iff, decide_eq_true_eq, r8_, lF_, qf_]
 simp [fz_, iG_]
theorem rK_ (n : ByteArray) (s : List ByteArray) (a : ac_) : f9_ a.Name.data.toList (bss a.Subs) n.data.toList (bss s) < 0 ↔ eT_ n s a = true := on_ _ _ _ _
def ys_ : LC :=
 .seq (.ops [.s 2 (.box 112 (.tmp 0)), .s 3 (.box 112 (.tmp 1)), .ki 4 0]) (.seq (.ops [.fa 5 0 2, .ln 6 5, .fa 7 1 2, .ln 8 7, .fa 9 0 3, .ln 10 9, .fa 11 1 3, .ln 12 11, .s 13 (.call 89 [.tmp 6, .tmp 8, .tmp 10, .tmp
 12]), .m 4 13]) .ret)
def uR_ : LF := ⟨2, 14, ys_, [.tmp 4]⟩
theorem z4_ : at_ Tryz.prog Tryz.f211 uR_ := ah_
theorem il_ (x y : ac_) (hx : ap_ ByteArray.size x.Subs ≤ 1048576) (hy : ap_ ByteArray.size y.Subs ≤ 1048576) (h : List Row) : aa_ Tryz.prog 211 [.agg (ac_.cells x), .agg (ac_.cells y)] h (.val (.int .i64 (f9_ x.Name.data.toList (bss x.Subs) y.Name.data.toList (bss y.Subs)))) := by
 refine aj_ mixed Tryz.func211 z4_ rfl rfl ?_ h
 simp (disch := omega) only [uR_, ys_, ac_.cells, go_sem, Nat.reduceEqDiff, Nat.reduceAdd, ↓reduceIte]
 repeat' (first
  | exact ae_ _ _
  | simp (disch := omega) only [go_sem, ↓reduceIte]
  | (refine aa_.call (dp_ _ _ _ _ hx hy _) ?_)
  | (refine aa_.q (dp_ _ _ _ _ hx hy _) ?_)
  | ((first | (apply aG_; assumption) | (apply aE_; assumption) | (apply aL_; assumption) | (apply aM_; assumption)); intro hb; try simp only [hb])
  | ((first | apply ak_ | apply al_) <;> intro hb <;> (try simp only [hb]) <;> (first | have hp := a1_ hb | have hp := aZ_ hb | have hp := a0_ hb | have hp := a2_ hb | skip)))
def Ay_ : LC :=
 .seq (.ops [.s 3 (.box 30 (.tmp 0)), .ki 6 0, .s 7 (.mov (.const (.bool false)))]) (.seq (.ops [.fa 8 0 3, .ln 9 8, .m 10 1, .m 11 2, .s 12 (.build (.agg #[.string ⟨#[]⟩, .slice none 0 0, .string ⟨#[]⟩]) [(0, 1), (1, 1),
 (2, 1)] [(0, .tmp 10), (1, .tmp 11)]), .s 13 (.call 210 [.tmp 9, .tmp 12, .func 211]), .ex 14 13 0, .ex 15 13 1, .m 6 14, .m 7 15]) .ret)
def uT_ : LF := ⟨3, 16, Ay_, [.tmp 6, .tmp 7]⟩
theorem yn_ : at_ Tryz.prog Tryz.f183 uT_ := ah_
theorem jS_ (x : af_) (n : ByteArray) (s : List ByteArray) (hx : af_.sz x ≤ 1048576) (hs : ap_ ByteArray.size s ≤ 1048576) (ht : aP_ x = true) (h : List Row) : aa_ Tryz.prog 183 [.agg (af_.cells x), .val (.string n), .list 0 1 (s.map ar_)] h (.tup [.val (.int .i64 (bo_ x.Nodes n s)), .val (.bool (bB_ x.Nodes n s))]) := by
 refine aj_ mixed Tryz.func183 yn_ rfl rfl ?_ h
 have hz := af_.sz_Nodes hx
 have hm : ∀ a ∈ x.Nodes, ac_.sz a ≤ 1048576 := fun a ha => dH_ hz ha
 have hb : ∀ H, aa_ Tryz.prog 210 [.list 0 3 (x.Nodes.map ac_.cells), .agg [.val (.string n), .list 0 1 (s.map ar_), .val (.string (txt []))], .fn 211 [] []] H (.tup [.val (.int .i64 (bo_ x.Nodes n s)), .val (.bool (bB_ x.Nodes n s))]) := fun H =>
  eJ_ x.Nodes ⟨n, s, txt []⟩ (fun a b => f9_ a.Name.data.toList (bss a.Subs) b.Name.data.toList (bss b.Subs)) 211 (bo_ x.Nodes n s) (aJ_ hz) (j8_ _ _ _) (fun i hi => (rK_ n s _).trans (j2_ ht n s i hi)) (by kernel_rfl) (fun a ha h => il_ a ⟨n, s, txt []⟩ (ac_.sz_Subs (hm a ha)) hs h) (bB_ x.Nodes n s) (by
   unfold bB_
   by_cases hp : bo_ x.Nodes n s < x.Nodes.length
   ·rw [dif_pos hp, List.getElem?_eq_getElem hp]; exact (oB_ n s _).symm
   ·rw [dif_neg hp, List.getElem?_eq_none (by omega)]) H
 simp (disch := omega) only [uT_, Ay_, af_.cells, bA_, Option.map_some, go_sem, Nat.reduceEqDiff, Nat.reduceAdd, Nat.reduceLeDiff, ↓reduceIte]
 refine aa_.call (hb _) ?_
 simp (disch := omega) only [go_sem, Nat.reduceEqDiff, ↓reduceIte]
 exact e6_ _ _ rfl
def uz_ : LC :=
 .seq (.ops [.s 4 (.mov (.const (.bool false)))]) (.seq (.seq (.ops [.m 6 0, .ll 7 6, .m 8 1, .ll 9 8, .bb 10 .neq false 7 9]) (.cond (.tmp 10) (.seq (.ops [.s 4 (.mov (.const (.bool false)))]) .ret) .skip)) (.seq (.seq
 (.ops [.ki 5 0]) (.block 0 (.loop (.seq (.seq (.ops [.m 11 5, .m 12 0, .ll 13 12, .bb 14 .lss false 11 13]) (.cond (.tmp 14) .skip (.exit 0))) (.seq (.block 1 (.seq (.dops [.m 17 0, .m 18 5, .ia 19 1 17 18, .ln 20 19, .m
 21 1, .m 22 5, .ia 23 1 21 22, .ln 24 23, .bb 25 .neq false 20 24]) (.cond (.tmp 25) (.seq (.ops [.s 4 (.mov (.const (.bool false)))]) .ret) .skip))) (.ops [.m 15 5, .bk 16 .add false 15 1, .m 5 16])))))) (.seq (.ops [.s
 4 (.mov (.const (.bool true)))]) .ret)))
def q8_ : LF := ⟨2, 26, uz_, [.tmp 4]⟩
theorem yY_ : at_ Tryz.prog Tryz.f192 q8_ := ah_
theorem hS_ (xs ys : List ByteArray) (hx : xs.length ≤ 1048576) (h : List Row) : aa_ Tryz.prog 192 [.list 0 1 (xs.map ar_), .list 0 1 (ys.map ar_)] h (.val (.bool (ct_ xs ys))) := by
 refine aj_ mixed Tryz.func192 yY_ rfl rfl ?_ h
 by_cases hl : xs.length = ys.length
 case neg =>
  have hl' : ((xs.length : Int) = (ys.length : Int)) = False := eq_false (by omega)
  simp (disch := omega) only [q8_, uz_, hl', go_sem, Nat.reduceEqDiff, reduceCtorEq, ↓reduceIte]
  exact ad_ (by rw [ct_, ia_ _ _ _ hl])
 have hl' : ((xs.length : Int) = (ys.length : Int)) = True := eq_true (by omega)
 simp (disch := omega) only [q8_, uz_, hl', go_sem, Nat.reduceEqDiff, reduceCtorEq, ↓reduceIte]
 refine aK_ (fun n t h => ∃ k : Nat, t 0 = .list 0 1 (xs.map ar_) ∧ t 1 = .list 0 1 (ys.map ar_) ∧ t 5 = .val (.int .i64 k) ∧ n = xs.length - k ∧ k ≤ xs.length ∧ ct_ xs ys = ex_ eqS (xs.drop k) (ys.drop k)) xs.length ⟨0, rfl, rfl, rfl, rfl, Nat.zero_le _, rfl⟩ ?_
 rintro J hJ n t h ⟨k, t0, t1, t5, rfl, hk, hS⟩
 by_cases hlt : k < xs.length
 ·have hlt2 : k < ys.length := by omega
  rw [mT_ eqS xs ys k hlt hlt2] at hS
  by_cases e : xs[k] = ys[k]
  ·have e' : (xs[k] = ys[k]) = True := eq_true e
   simp (disch := omega) only [t0, t1, t5, hlt, e', ar_, go_sem, Nat.reduceEqDiff, reduceCtorEq, ↓reduceIte]
   exact ⟨xs.length - (k + 1), by omega, hJ _ _ _ ⟨k + 1, by simp [upd, t0], by simp [upd, t1], by simp [upd], rfl, by omega, by rw [hS]; simp [eqS, e]⟩⟩
  ·have e' : (xs[k] = ys[k]) = False := eq_false e
   simp (disch := omega) only [t0, t1, t5, hlt, e', ar_, go_sem, Nat.reduceEqDiff, reduceCtorEq, ↓reduceIte]
   exact ad_ (by rw [hS]; simp [eqS, e])
 ·simp (disch := omega) only [t0, t5, hlt, go_sem, Nat.reduceEqDiff, reduceCtorEq, ↓reduceIte]
  exact ad_ (by rw [hS, oO_ _ _ _ _ (by omega) (by omega)])
def zR_ : LC :=
 .seq (.ops [.s 4 (.mov (.const (.bool false)))]) (.seq (.ops [.m 5 0, .m 6 1, .c2 7 192 5 6, .m 4 7]) .ret)
def vL_ : LF := ⟨2, 8, zR_, [.tmp 4]⟩
theorem xQ_ : at_ Tryz.prog Tryz.f156 vL_ := ah_
theorem hq_ (xs ys : List ByteArray) (hx : xs.length ≤ 1048576) (h : List Row) : aa_ Tryz.prog 156 [.list 0 1 (xs.map ar_), .list 0 1 (ys.map ar_)] h (.val (.bool (ct_ xs ys))) := by
 refine aj_ mixed Tryz.func156 xQ_ rfl rfl ?_ h
 simp (disch := omega) only [vL_, zR_, go_sem, Nat.reduceEqDiff, reduceCtorEq, ↓reduceIte]
 repeat' (first
  | exact ae_ _ _
  | simp (disch := omega) only [go_sem, ↓reduceIte]
  | (refine aa_.call (hS_ _ _ hx _) ?_)
  | (refine aa_.q (hS_ _ _ hx _) ?_)
  | ((first | (apply aR_; assumption) | (apply aQ_; assumption) | (apply a3_; assumption) | (apply a4_; assumption)); intro hb; try simp only [hb])
  | ((first | (apply aG_; assumption) | (apply aE_; assumption) | (apply aL_; assumption) | (apply aM_; assumption)); intro hb; try simp only [hb])
  | ((first | apply av_ | apply ay_ | apply ak_ | apply al_) <;> intro hb <;> (try simp only [hb]) <;> (first | have hp := a1_ hb | have hp := aZ_ hb | have hp := a0_ hb | have hp := a2_ hb | skip)))
def tf_ : LC :=
 .seq (.ops [.s 4 (.mov (.const (.bool false)))]) (.seq (.ops [.m 5 0, .ll 6 5, .m 7 1, .ll 8 7, .bb 9 .geq false 6 8, .m 10 9, .g 11 10 true (.mov (.tmp 0)), .g 12 10 true (.mov (.tmp 1)), .g 13 10 true (.lenSl (.tmp
 12)), .g 14 10 true (.sliceSl 1 (.tmp 11) none (some (.tmp 13))), .g 15 10 true (.mov (.tmp 1)), .g 16 10 true (.call 156 [.tmp 14, .tmp 15]), .pf 17 10 16, .m 4 17]) .ret)
def rC_ : LF := ⟨2, 18, tf_, [.tmp 4]⟩
theorem yz_ : at_ Tryz.prog Tryz.f199 rC_ := ah_
theorem gK_ (a b : List ByteArray) (ha : a.length ≤ 1048576) (h : List Row) : aa_ Tryz.prog 199 [.list 0 1 (a.map ar_), .list 0 1 (b.map ar_)] h (.val (.bool (fQ_ b a))) := by
 refine aj_ mixed Tryz.func199 yz_ rfl rfl ?_ h
 by_cases hl : b.length ≤ a.length
 ·have hl' : ((b.length : Int) ≤ (a.length : Int)) := by omega
  simp (disch := omega) only [rC_, tf_, hl', hl, bI_, hB_, go_sem, Nat.reduceEqDiff, reduceCtorEq, ↓reduceIte]
  refine aa_.call (hq_ (a.take b.length) b (by rw [List.length_take]; omega) _) ?_
  simp (disch := omega) only [go_sem, Nat.reduceEqDiff, ↓reduceIte]
  exact ad_ (by simp only [fQ_, hl, ct_, decide_true, Bool.true_and]; exact jx_ _ op_ _ _)
 ·have hl' : ¬ ((b.length : Int) ≤ (a.length : Int)) := by omega
  simp (disch := omega) only [rC_, tf_, hl', go_sem, Nat.reduceEqDiff, reduceCtorEq, ↓reduceIte]
  exact ad_ (by simp [fQ_, hl])
def inN (n : ByteArray) (s : List ByteArray) (a : ac_) : Bool := decide (a.Name = n) && fQ_ s a.Subs
def xw_ : LC :=
 .seq (.ops [.s 3 (.box 112 (.tmp 0)), .s 6 (.mov (.const (.bool false)))]) (.seq (.ops [.fa 7 0 3, .ln 8 7, .m 9 1, .bb 10 .eql false 8 9, .m 11 10, .g 12 11 true (.fieldAddr 1 (.tmp 3)), .g 13 11 true (.load none (.tmp
 12)), .g 14 11 true (.mov (.tmp 2)), .g 15 11 true (.call 215 [.tmp 13, .tmp 14]), .pf 16 11 15, .m 6 16]) .ret)
def vh_ : LF := ⟨3, 17, xw_, [.tmp 6]⟩
theorem x8_ : at_ Tryz.prog Tryz.f187 vh_ := ah_
theorem h3_ (a : ac_) (n : ByteArray) (s : List ByteArray) (ha : ac_.sz a ≤ 1048576) (h : List Row) : aa_ Tryz.prog 187 [.agg (ac_.cells a), .val (.string n), .list 0 1 (s.map ar_)] h (.val (.bool (inN n s a))) := by
 refine aj_ mixed Tryz.func187 x8_ rfl rfl ?_ h
 simp (disch := omega) only [vh_, xw_, ac_.cells, go_sem, Nat.reduceEqDiff, Nat.reduceAdd, ↓reduceIte]
 repeat' (first
  | exact ae_ _ _
  | (refine ad_ ?_; first | rfl | (simp only [inN, *, Bool.true_and, Bool.false_and]; done) | (simp [inN, *]; done))
  | simp (disch := omega) only [go_sem, Nat.reduceEqDiff, ↓reduceIte]
  | (refine aa_.call (ip_ _ _ (aJ_ (ac_.sz_Subs ha)) _) ?_)
  | (refine aa_.q (ip_ _ _ (aJ_ (ac_.sz_Subs ha)) _) ?_)
  | ((first | (apply aR_; assumption) | (apply aQ_; assumption) | (apply a3_; assumption) | (apply a4_; assumption)); intro hb; try simp only [hb])
  | ((first | (apply aG_; assumption) | (apply aE_; assumption) | (apply aL_; assumption) | (apply aM_; assumption)); intro hb; try simp only [hb])
  | ((first | apply av_ | apply ay_ | apply ak_ | apply al_) <;> intro hb <;> (try simp only [hb]) <;> (first | have hp := a1_ hb | have hp := aZ_ hb | have hp := a0_ hb | have hp := a2_ hb | skip)))
def xC_ : LC :=
 .seq (.ops [.s 3 (.box 112 (.tmp 0)), .s 6 (.mov (.const (.bool false)))]) (.seq (.ops [.fa 7 0 3, .ln 8 7, .m 9 1, .bb 10 .eql false 8 9, .m 11 10, .g 12 11 true (.fieldAddr 1 (.tmp 3)), .g 13 11 true (.load none (.tmp
 12)), .g 14 11 true (.mov (.tmp 2)), .g 15 11 true (.call 199 [.tmp 13, .tmp 14]), .pf 16 11 15, .m 6 16]) .ret)
def uQ_ : LF := ⟨3, 17, xC_, [.tmp 6]⟩
theorem z1_ : at_ Tryz.prog Tryz.f198 uQ_ := ah_
theorem nj_ (a : ac_) (n : ByteArray) (s : List ByteArray) (ha : ac_.sz a ≤ 1048576) (h : List Row) : aa_ Tryz.prog 198 [.agg (ac_.cells a), .val (.string n), .list 0 1 (s.map ar_)] h (.val (.bool (inN n s a))) := by
 refine aj_ mixed Tryz.func198 z1_ rfl rfl ?_ h
 simp (disch := omega) only [uQ_, xC_, ac_.cells, go_sem, Nat.reduceEqDiff, Nat.reduceAdd, ↓reduceIte]
 repeat' (first
  | exact ae_ _ _
  | (refine ad_ ?_; first | rfl | (simp only [inN, *, Bool.true_and, Bool.false_and]; done) | (simp [inN, *]; done))
  | simp (disch := omega) only [go_sem, Nat.reduceEqDiff, ↓reduceIte]
  | (refine aa_.call (gK_ _ _ (aJ_ (ac_.sz_Subs ha)) _) ?_)
  | (refine aa_.q (gK_ _ _ (aJ_ (ac_.sz_Subs ha)) _) ?_)
  | ((first | (apply aR_; assumption) | (apply aQ_; assumption) | (apply a3_; assumption) | (apply a4_; assumption)); intro hb; try simp only [hb])
  | ((first | (apply aG_; assumption) | (apply aE_; assumption) | (apply aL_; assumption) | (apply aM_; assumption)); intro hb; try simp only [hb])
  | ((first | apply av_ | apply ay_ | apply ak_ | apply al_) <;> intro hb <;> (try simp only [hb]) <;> (first | have hp := a1_ hb | have hp := aZ_ hb | have hp := a0_ hb | have hp := a2_ hb | skip)))
def zN_ : LC :=
 .seq (.ops [.s 3 (.box 30 (.tmp 0)), .ki 6 0, .s 7 (.mov (.const (.bool false)))]) (.seq (.ops [.ki 8 0]) (.seq (.block 0 (.loop (.seq (.seq (.dops [.m 9 8, .fa 10 0 3, .ln 11 10, .ll 12 11, .bb 13 .lss false 9 12, .m 14
 13, .g 15 14 true (.fieldAddr 0 (.tmp 3)), .g 16 14 true (.load none (.tmp 15)), .g 17 14 true (.mov (.tmp 8)), .g 18 14 true (.indexAddr 3 (.tmp 16) (.tmp 17)), .g 19 14 true (.fieldAddr 0 (.tmp 18)), .g 20 14 true
 (.load none (.tmp 19)), .g 21 14 true (.fieldAddr 0 (.tmp 3)), .g 22 14 true (.load none (.tmp 21)), .g 23 14 true (.mov (.tmp 8)), .g 24 14 true (.indexAddr 3 (.tmp 22) (.tmp 23)), .g 25 14 true (.fieldAddr 1 (.tmp
 24)), .g 26 14 true (.load none (.tmp 25)), .g 27 14 true (.mov (.tmp 1)), .g 28 14 true (.mov (.tmp 2)), .g 29 14 true (.call 79 [.tmp 20, .tmp 26, .tmp 27, .tmp 28]), .pf 30 14 29]) (.cond (.tmp 30) .skip (.exit 0)))
 (.block 1 (.ops [.m 31 8, .bk 32 .add false 31 1, .m 8 32]))))) (.seq (.ops [.m 33 8, .m 34 8, .fa 35 0 3, .ln 36 35, .ll 37 36, .bb 38 .lss false 34 37, .m 39 38, .g 40 39 true (.fieldAddr 0 (.tmp 3)), .g 41 39 true
 (.load none (.tmp 40)), .g 42 39 true (.mov (.tmp 8)), .g 43 39 true (.indexAddr 3 (.tmp 41) (.tmp 42)), .g 44 39 true (.fieldAddr 0 (.tmp 43)), .g 45 39 true (.load none (.tmp 44)), .g 46 39 true (.mov (.tmp 1)), .g 47
 39 true (.bin .eql false (.tmp 45) (.tmp 46)), .pf 48 39 47, .m 49 48, .g 50 49 true (.fieldAddr 0 (.tmp 3)), .g 51 49 true (.load none (.tmp 50)), .g 52 49 true (.mov (.tmp 8)), .g 53 49 true (.indexAddr 3 (.tmp 51)
 (.tmp 52)), .g 54 49 true (.fieldAddr 1 (.tmp 53)), .g 55 49 true (.load none (.tmp 54)), .g 56 49 true (.mov (.tmp 2)), .g 57 49 true (.call 156 [.tmp 55, .tmp 56]), .pf 58 49 57, .m 6 33, .m 7 58]) .ret)))
def vb_ : LF := ⟨3, 59, zN_, [.tmp 6, .tmp 7]⟩
theorem y5_ : at_ Tryz.prog Tryz.f165 vb_ := ah_
theorem nd_ (x : af_) (n : ByteArray) (s : List ByteArray) (hx : af_.sz x ≤ 1048576) (hs : ap_ ByteArray.size s ≤ 1048576) (h : List Row) : aa_ Tryz.prog 165 [.agg (af_.cells x), .val (.string n), .list 0 1 (s.map ar_)] h (.tup [.val (.int .i64 (bo_ x.Nodes n s)), .val (.bool (bB_ x.Nodes n s))]) := by
 refine aj_ mixed Tryz.func165 y5_ rfl rfl ?_ h
 have hz := af_.sz_Nodes hx
 have hl := aJ_ hz
 have hm : ∀ a ∈ x.Nodes, ac_.sz a ≤ 1048576 := fun a ha => dH_ hz ha
 simp (disch := omega) only [vb_, zN_, af_.cells, go_sem, ↓reduceIte]
 refine aK_ (fun m t h => ∃ k : Nat, t 3 = .ptr 0 1 0 0 ∧ t 1 = .val (.string n) ∧ t 2 = .list 0 1 (s.map ar_) ∧ t 8 = .val (.int .i64 k) ∧ h[0]? = some ⟨30, 1, [[.list 0 3 (x.Nodes.map ac_.cells)]]⟩ ∧ m = x.Nodes.length - k ∧ k ≤ x.Nodes.length ∧ bo_ x.Nodes n s = k + ((x.Nodes.drop k).takeWhile (eT_ n s)).length) x.Nodes.length ⟨0, rfl, rfl, rfl, rfl, rfl, rfl, Nat.zero_le _, by simp [bo_]⟩ ?_
 rintro J hJ m t h ⟨k, t3, t1, t2, t8, o0, rfl, hk, hS⟩
 by_cases hlt : k < x.Nodes.length
 ·rw [List.drop_eq_getElem_cons hlt] at hS
  have hb := hm _ (List.getElem_mem hlt)
  simp (disch := omega) only [t3, t1, t2, t8, o0, hlt, ac_.cells, go_sem, Nat.reduceEqDiff, Nat.reduceAdd, Nat.reduceLeDiff, ↓reduceIte]
  refine aa_.q (hD_ _ _ _ _ (ac_.sz_Subs hb) hs _) ?_
  by_cases q : eT_ n s x.Nodes[k] = true
  ·have q' := q
   unfold eT_ bL_ at q'
   rw [List.takeWhile_cons_of_pos q, lc_] at hS
   simp (disch := omega) only [t8, q', go_sem, Nat.reduceEqDiff, ↓reduceIte]
   exact ⟨x.Nodes.length - (k + 1), by omega, hJ _ _ _ ⟨k + 1, by simp [upd, t3], by simp [upd, t1], by simp [upd, t2], by simp [upd], o0, rfl, by omega, by omega⟩⟩
  ·have q1 : eT_ n s x.Nodes[k] = false := by simpa using q
   have q' := q1
   unfold eT_ bL_ at q'
   rw [List.takeWhile_cons_of_neg q] at hS
   have hp : bo_ x.Nodes n s = k := by simpa using hS
   have hf : bB_ x.Nodes n s = fz_ n s x.Nodes[k] := by unfold bB_; rw [hp, List.getElem?_eq_getElem hlt]
   by_cases e : x.Nodes[k].Name = n
   ·have e' : (x.Nodes[k].Name = n) = True := eq_true e
    simp (disch := omega) only [t3, t1, t2, t8, o0, hlt, q', e', ac_.cells, go_sem, Nat.reduceEqDiff, Nat.reduceAdd, Nat.reduceLeDiff, ↓reduceIte]
    refine aa_.call (hq_ _ _ (aJ_ (ac_.sz_Subs hb)) _) ?_
    simp (disch := omega) only [go_sem, Nat.reduceEqDiff, ↓reduceIte]
    rw [hp, hf]
    refine jr_ _ _ ?_
    simp [fz_, e]
   ·have e' : (x.Nodes[k].Name = n) = False := eq_false e
    simp (disch := omega) only [t3, t1, t8, o0, hlt, q', e', ac_.cells, go_sem, Nat.reduceEqDiff, Nat.reduceAdd, ↓reduceIte]
    rw [hp, hf]
    refine jr_ _ _ ?_
    simp [fz_, e]
 ·have hp : bo_ x.Nodes n s = k := by rw [hS, List.drop_eq_nil_of_le (by omega)]; rfl
  have hf : bB_ x.Nodes n s = false := by unfold bB_; rw [hp, List.getElem?_eq_none (by omega)]
  simp (disch := omega) only [t3, t8, o0, hlt, go_sem, Nat.reduceEqDiff, ↓reduceIte]
  rw [hp, hf]
  exact e6_ _ _ rfl
def Aw_ : LC :=
 .seq (.ops [.s 2 (.mov (.const (.slice none 0 0)))]) (.seq (.seq (.ops [.m 3 0, .s 4 (.isNil false (.tmp 3))]) (.cond (.tmp 4) (.seq (.ops [.s 2 (.mov (.const (.slice none 0 0)))]) (.ghost .ret)) .skip)) (.seq (.ops [.s
 5 (.buildSlice 9 1 (.string ⟨#[]⟩) 0 []), .m 6 0, .ap 7 9 1 16 5 6, .m 2 7]) (.ghost .ret)))
def v0_ : LF := ⟨1, 8, Aw_, [.tmp 2]⟩
theorem xH_ : at_ Tryz.prog Tryz.f144 v0_ := ah_
theorem cD_ (xs : List ByteArray) (hx : xs.length ≤ 1048576) : aN_ Tryz.prog 144 [.list 0 1 (xs.map ar_)] (.list 0 1 (xs.map ar_)) (fun a => ∃ l, a = .own l xs.length) := by
 refine cd_ mixed Tryz.func144 xH_ rfl (fun h0 => ?_)
 have hv : ∀ e ∈ xs.map ar_, ∀ c ∈ e, ∃ v, c = AV.val v := by
  intro e he c hc
  obtain ⟨x, _, q⟩ := List.mem_map.1 he; subst q
  simp only [ar_, List.mem_cons, List.not_mem_nil, or_false] at hc
  first | (rcases hc with rfl) | (rcases hc with rfl | rfl) | (rcases hc with rfl | rfl | rfl)
  all_goals exact ⟨_, rfl⟩
 have hcell : ∀ e ∈ xs.map ar_, e.all AV.cell = true := by
  intro e he
  obtain ⟨x, _, q⟩ := List.mem_map.1 he; subst q; rfl
 simp (disch := omega) only [v0_, Aw_, go_sem, reduceCtorEq, ↓reduceIte]
 intro b hb
 cases b
 ·simp (disch := omega) only [bne_self_eq_false, go_sem, Nat.reduceEqDiff, reduceCtorEq, ↓reduceIte]
  refine ⟨by omega, by omega, hcell, ?_⟩
  try simp (disch := omega) only [go_sem, Nat.reduceEqDiff, Nat.reduceAdd, Nat.reduceLeDiff, reduceCtorEq, Int.reduceLT, Int.reduceLE, Int.reduceNeg, Int.reduceSub, Int.reduceAdd, Int.reduceToNat, ↓reduceIte]
  refine kQ_ _ _ sZ_ ?_
  simp (disch := omega) only [go_sem, ↓reduceIte]
  exact ⟨⟨aI_.app _ _, (aF_.mkown (lo := h0.length + 1) (hi := h0.length + 1) (bs_.ofVals _ _ _ _ hv) (by rw [cP_]; rfl) (by simp) (Nat.le_refl _) (Nat.lt_succ_self _) (Nat.le_refl _)).widen (Nat.le_refl _) (by simp)⟩, _, rfl⟩
 ·have hx0 : xs = [] := by simpa using hb rfl
  subst hx0
  simp (disch := omega) only [Bool.bne_false, List.map_nil, go_sem]
  refine kQ_ _ _ (sl_ 2 9 1 rfl) ?_
  simp (disch := omega) only [go_sem, ↓reduceIte]
  exact ⟨⟨aI_.app _ _, (aF_.mkown (lo := h0.length + 1) (hi := h0.length + 1) (bs_.nil _ _ _) (by rw [cP_]; rfl) (by simp) (Nat.le_refl _) (Nat.lt_succ_self _) (Nat.le_refl _)).widen (Nat.le_refl _) (by simp)⟩, _, rfl⟩
theorem qc_ {H : List Row} {l : Nat} {E : Tag} {xs : List ByteArray} (hl : H[l]? = some ⟨E, 1, xs.map ar_⟩) : aF_ l (l + 1) H (.own l xs.length) (.list 0 1 (xs.map ar_)) :=
 aF_.mkown (lo := l + 1) (hi := l + 1) (bs_.ofVals _ _ _ _ (by
  intro e he c hc
  obtain ⟨x, _, q⟩ := List.mem_map.1 he; subst q
  simp only [ar_, List.mem_singleton] at hc
  exact ⟨_, hc⟩)) hl (by simp) (Nat.le_refl _) (Nat.lt_succ_self _) (Nat.le_refl _)
theorem mR_ (xs : List ByteArray) : ∀ e ∈ xs.map ar_, e.all AV.cell = true := by
 intro e he
 obtain ⟨x, _, q⟩ := List.mem_map.1 he; subst q; rfl
def x4_ : LC :=
 .seq (.ops [.s 2 (.mov (.const (.slice none 0 0)))]) (.seq (.ops [.s 3 (.buildSlice 9 1 (.string ⟨#[]⟩) 0 []), .m 4 0, .ap 5 9 1 16 3 4, .m 2 5]) .ret)
def vK_ : LF := ⟨1, 6, x4_, [.tmp 2]⟩
theorem ya_ : at_ Tryz.prog Tryz.f169 vK_ := ah_
def c85 : LC :=
 .seq (.ops [.s 2 (.mov (.const (.slice none 0 0)))]) (.seq (.ops [.s 3 (.buildSlice 9 1 (.string ⟨#[]⟩) 0 []), .m 4 0, .ap 5 9 1 16 3 4, .m 2 5]) .ret)
def xK_ : LF := ⟨1, 6, c85, [.tmp 2]⟩
theorem Br_ : at_ Tryz.prog Tryz.f85 xK_ := ah_
theorem jZ_ (xs : List ByteArray) (hx : xs.length ≤ 1048576) : aN_ Tryz.prog 169 [.list 0 1 (xs.map ar_)] (.list 0 1 (xs.map ar_)) (fun a => ∃ l, a = .own l xs.length) := by
 refine cd_ mixed Tryz.func169 ya_ rfl (fun h0 => ?_)
 simp (disch := omega) only [vK_, x4_, go_sem, Nat.reduceEqDiff, reduceCtorEq, ↓reduceIte]
 exact ⟨by omega, by omega, mR_ xs, ⟨aI_.app _ _, (qc_ (by rw [cP_]; rfl)).widen (Nat.le_refl _) (by simp)⟩, _, rfl⟩
theorem gr_ (xs : List ByteArray) (hx : xs.length ≤ 1048576) : aN_ Tryz.prog 85 [.list 0 1 (xs.map ar_)] (.list 0 1 (xs.map ar_)) (fun a => ∃ l, a = .own l xs.length) := by
 refine cd_ mixed Tryz.func85 Br_ rfl (fun h0 => ?_)
 simp (disch := omega) only [xK_, c85, go_sem, Nat.reduceEqDiff, reduceCtorEq, ↓reduceIte]
 exact ⟨by omega, by omega, mR_ xs, ⟨aI_.app _ _, (qc_ (by rw [cP_]; rfl)).widen (Nat.le_refl _) (by simp)⟩, _, rfl⟩
def lV_ (P : Program) (f : FuncId) (args : List AV) (h : List Row) (r : AV) : Prop := ∀ K : AV → List Row → Prop, (∀ H', aI_ h H' → K r H') → callSem P f args h K
theorem aa_.quiet {P : Program} {f : FuncId} {args : List AV} {h : List Row} {r : AV} (hc : aa_ P f args h r) : lV_ P f args h r := fun K hk => hc K (hk h (aI_.refl h))
theorem kj_ {α : Type} {ts : List α} {k m : Nat} (h1 : k < m) (h2 : k < ts.length) : ts[k] ∈ ts.take m := by
 have h3 : k < (ts.take m).length := by rw [List.length_take]; omega
 have e : (ts.take m)[k] = ts[k] := List.getElem_take
 rw [← e]; exact List.getElem_mem h3
def cC_ (ns : List ac_) (n : ByteArray) (s : List ByteArray) : List ac_ := ns.filter fun a => !inN n s a
theorem qk_ {ns : List ac_} {n : ByteArray} {s : List ByteArray} {k : Nat} (hlt : k < ns.length) (h : inN n s ns[k] = false) : cC_ (ns.take (k + 1)) n s = cC_ (ns.take k) n s ++ [ns[k]] := by
 unfold cC_; rw [List.take_succ_eq_append_getElem hlt, List.filter_append]; simp [h]
theorem qL_ {ns : List ac_} {n : ByteArray} {s : List ByteArray} {k : Nat} (hlt : k < ns.length) (h : inN n s ns[k] = true) : cC_ (ns.take (k + 1)) n s = cC_ (ns.take k) n s := by
 unfold cC_; rw [List.take_succ_eq_append_getElem hlt, List.filter_append]; simp [h]
theorem sL_ (ns : List ac_) (n : ByteArray) (s : List ByteArray) (k : Nat) : (cC_ (ns.take k) n s).length ≤ k := by
 unfold cC_
 exact Nat.le_trans (List.length_filter_le _ _) (by simp; omega)
theorem jB_ {α : Type} (f : α → Nat) (p : α → Bool) : ∀ xs : List α, bY_ f (xs.filter p) ≤ bY_ f xs
 | [] => Nat.le_refl _
 | x :: xs => by
  have ih := jB_ f p xs
  by_cases h : p x = true
  ·rw [List.filter_cons_of_pos h]; simp only [bY_]; omega
  ·rw [List.filter_cons_of_neg h]; simp only [bY_]; omega
theorem tP_ (x : af_) (n : ByteArray) (s : List ByteArray) : af_.sz ⟨cC_ x.Nodes n s⟩ ≤ af_.sz x := by
 have h1 := jB_ ac_.sz (fun a => !inN n s a) x.Nodes
 have h2 := List.length_filter_le (fun a => !inN n s a) x.Nodes
 have e : ∀ y : af_, af_.sz y = ap_ ac_.sz y.Nodes := fun _ => rfl
 simp only [e, ap_, cC_]
 omega
theorem m3_ (ns : List ac_) : ∀ e ∈ ns.map ac_.cells, e.all AV.flat = true := by
 intro e he
 obtain ⟨x, _, q⟩ := List.mem_map.1 he; subst q; rfl
def yI_ : LC :=
 .seq (.ops [.s 2 (.mov (.const (.slice none 0 0)))]) (.seq (.ops [.s 5 (.buildSlice 112 3 (.agg #[.string ⟨#[]⟩, .slice none 0 0, .string ⟨#[]⟩]) 0 []), .m 3 5]) (.seq (.seq (.ops [.ki 4 0]) (.block 0 (.loop (.seq (.seq
 (.ops [.m 6 4, .m 7 0, .ll 8 7, .bb 9 .lss false 6 8]) (.cond (.tmp 9) .skip (.exit 0))) (.seq (.block 1 (.gops [.m 12 3, .m 13 0, .m 14 4, .ia 15 3 13 14, .fa 16 0 15, .ln 17 16, .m 18 0, .m 19 4, .ia 20 3 18 19, .fa 21
 1 20, .ln 22 21, .m 24 0, .m 25 4, .ia 26 3 24 25, .fa 27 2 26, .ln 28 27] [(.c1 23 169 22, [.m 12 3, .m 13 0, .m 14 4, .ia 15 3 13 14, .fa 16 0 15, .ln 17 16, .m 24 0, .m 25 4, .ia 26 3 24 25, .fa 27 2 26, .ln 28 27]),
 (.s 29 (.build (.agg #[.string ⟨#[]⟩, .slice none 0 0, .string ⟨#[]⟩]) [(0, 1), (1, 1), (2, 1)] [(0, .tmp 17), (1, .tmp 23), (2, .tmp 28)]), [.m 12 3]), (.s 30 (.buildSlice 112 3 (.agg #[.string ⟨#[]⟩, .slice none 0 0,
 .string ⟨#[]⟩]) 1 [(0, .tmp 29)]), [.m 12 3]), (.ap 31 112 3 56 12 30, []), (.m 3 31, [])])) (.ops [.m 10 4, .bk 11 .add false 10 1, .m 4 11])))))) (.seq (.ops [.m 32 3, .m 2 32]) .ret)))
def v3_ : LF := ⟨1, 33, yI_, [.tmp 2]⟩
theorem zj_ : at_ Tryz.prog Tryz.f157 v3_ := ah_
theorem e2_ (ns : List ac_) (hn : ap_ ac_.sz ns ≤ 1048576) : aN_ Tryz.prog 157 [.list 0 3 (ns.map ac_.cells)] (.list 0 3 (ns.map ac_.cells)) (fun a => ∃ l, a = .own l ns.length) := by
 refine cd_ mixed Tryz.func157 zj_ rfl (fun h0 => ?_)
 have hl := aJ_ hn
 have hm : ∀ e ∈ ns, ac_.sz e ≤ 1048576 := fun e he => dH_ hn he
 simp (disch := omega) only [v3_, yI_, go_sem, ↓reduceIte]
 refine aK_ (fun n t h => ∃ (k : Nat) (done : List (List AV)), t 0 = .list 0 3 (ns.map ac_.cells) ∧ t 3 = .own h0.length k ∧ t 4 = .val (.int .i64 k) ∧ aI_ h0 h ∧ cj_ h0.length h 112 3 done ((ns.take k).map ac_.cells) ∧ done.length = k ∧ n = ns.length - k ∧ k ≤ ns.length) ns.length ?_ ?_
 ·exact ⟨0, [], rfl, rfl, rfl, aI_.app _ _, cj_.zero (by rw [cP_]; rfl), rfl, rfl, Nat.zero_le _⟩
 rintro J hJ n t h ⟨k, done, t0, t3, t4, hM, hG, hd, rfl, hk⟩
 have o3 := hG.row
 have ml := hM.len
 have gl := hG.lt
 by_cases hlt : k < ns.length
 ·have hsl := aJ_ (ac_.sz_Subs (hm _ (List.getElem_mem hlt)))
  simp (disch := (first | omega | (simp only [ls_, la_, lc_, ln_]; first | done | omega))) only [go_sem, Nat.reduceEqDiff, Nat.reduceAdd, Nat.reduceLeDiff, reduceCtorEq, ↓reduceIte, t0, t3, t4, hlt, ac_.cells]
  refine b0_ (jZ_ ns[k].Subs hsl) (fun av H1 m1 F1 q1 => ?_)
  obtain ⟨l, rfl⟩ := q1
  have p3 := m1.at o3
  have l1 := m1.len
  simp (disch := (first | omega | (simp only [ls_, la_, lc_, ln_]; first | done | omega))) only [aS_, a6_, go_sem, Nat.reduceEqDiff, Nat.reduceAdd, Nat.reduceLeDiff, reduceCtorEq, ↓reduceIte, t0, t3, t4, p3, hd, ac_.cells, bA_, Option.map_some]
  repeat (refine And.intro (by first | omega | (exact strs_cellv _) | assumption | (simp; done)) ?_)
  refine ⟨ns.length - (k + 1), by omega, hJ _ _ _ ⟨k + 1, done ++ [[.val (.string ns[k].Name), .own l ns[k].Subs.length, .val (.string ns[k].Value)]], by simp [upd, t0], by simp [upd], by simp [upd], ((hM.trans m1).add _).set (by omega), ?_, by simp [hd], rfl, by omega⟩⟩
  rw [List.take_succ_eq_append_getElem hlt, List.map_append]
  refine hG.step (H1 := H1) (as_.val _ (as_.cons F1.tree (as_.val _ (as_.nil _ _ _)) ⟨l1, Nat.le_refl _⟩)) l1 (fun y q1 q2 => m1.kept y q2) (by simp) (fun y q1 q2 => by (repeat (first | rw [a9_ (by omega)] | rw [aS_ (by first | omega | (simp only [ls_, la_, lc_, ln_]; omega))]))) ?_
  exact bf_ (by simp; omega)
 ·simp (disch := (first | omega | (simp only [ls_, la_, lc_, ln_]; first | done | omega))) only [go_sem, Nat.reduceEqDiff, reduceCtorEq, ↓reduceIte, t0, t3, t4, hlt]
  have e : k = ns.length := by omega
  subst e
  rw [List.take_length] at hG
  exact ⟨⟨hM, hG.done hd⟩, _, rfl⟩
def xO_ : LC :=
 .seq (.ops [.s 3 (.box 30 (.tmp 0)), .s 6 (.alloc 30 (.agg #[.slice none 0 0]))]) (.seq (.ops [.s 9 (.buildSlice 112 3 (.agg #[.string ⟨#[]⟩, .slice none 0 0, .string ⟨#[]⟩]) 0 []), .m 7 9]) (.seq (.seq (.ops [.ki 8 0])
 (.block 0 (.loop (.seq (.seq (.ops [.m 10 8, .fa 11 0 3, .ln 12 11, .ll 13 12, .bb 14 .lss false 10 13]) (.cond (.tmp 14) .skip (.exit 0))) (.seq (.block 1 (.seq (.ops [.fa 17 0 3, .ln 18 17, .m 19 8, .ia 20 3 18 19, .ld
 21 3 20, .m 22 1, .m 23 2, .c3 24 198 21 22 23, .nt 25 24]) (.cond (.tmp 25) (.ops [.m 26 7, .fa 27 0 3, .ln 28 27, .m 29 8, .ia 30 3 28 29, .ld 31 3 30, .s 32 (.buildSlice 112 3 (.agg #[.string ⟨#[]⟩, .slice none 0 0,
 .string ⟨#[]⟩]) 1 [(0, .tmp 31)]), .ap 33 112 3 56 26 32, .m 7 33]) .skip))) (.ops [.m 15 8, .bk 16 .add false 15 1, .m 8 16])))))) (.seq (.ops [.m 34 7, .c1 35 157 34, .s 36 (.build (.agg #[.slice none 0 0]) [(0, 1)]
 [(0, .tmp 35)]), .st 1 6 36]) .ret)))
def vJ_ : LF := ⟨3, 37, xO_, [.cell 6 (some 1)]⟩
theorem y2_ : at_ Tryz.prog Tryz.f202 vJ_ := ah_
theorem jz_ (x : af_) (n : ByteArray) (s : List ByteArray) (hx : af_.sz x ≤ 1048576) : aN_ Tryz.prog 202 [.agg (af_.cells x), .val (.string n), .list 0 1 (s.map ar_)] (.agg (af_.cells ⟨cC_ x.Nodes n s⟩)) (fun a => ∃ l, a = .agg [.own l (cC_ x.Nodes n s).length]) := by
 refine cd_ mixed Tryz.func202 y2_ rfl (fun h0 => ?_)
 have hs := af_.sz_Nodes hx
 have hl := aJ_ hs
 have hm : ∀ e ∈ x.Nodes, ac_.sz e ≤ 1048576 := fun e he => dH_ hs he
 have hin : ∀ a : ac_, ac_.sz a ≤ 1048576 → ∀ H, aa_ Tryz.prog 198 [.agg [.val (.string a.Name), .list 0 1 (a.Subs.map ar_), .val (.string a.Value)], .val (.string n), .list 0 1 (s.map ar_)] H (.val (.bool (inN n s a))) := fun a ha H => nj_ a n s ha H
 simp (disch := omega) only [vJ_, xO_, af_.cells, go_sem, Nat.reduceAdd, ↓reduceIte]
 refine aK_ (fun N t h => ∃ (k : Nat), t 1 = .val (.string n) ∧ t 2 = .list 0 1 (s.map ar_) ∧ t 3 = .ptr h0.length 1 0 0 ∧ t 6 = .ptr (h0.length + 1) 1 0 0 ∧ t 7 = .own (h0.length + 2) (cC_ (x.Nodes.take k) n s).length ∧ t 8 = .val (.int .i64 k) ∧ aI_ h0 h ∧
  h[h0.length]? = some ⟨30, 1, [[.list 0 3 (x.Nodes.map ac_.cells)]]⟩ ∧ h[h0.length + 1]? = some ⟨30, 1, [[.val (.slice none 0 0)]]⟩ ∧ h[h0.length + 2]? = some ⟨112, 3, (cC_ (x.Nodes.take k) n s).map ac_.cells⟩ ∧ N = x.Nodes.length - k ∧ k ≤ x.Nodes.length) x.Nodes.length ?_ ?_
 ·exact ⟨0, rfl, rfl, rfl, rfl, rfl, rfl, aI_.app _ _, by rw [cP_]; rfl, by rw [cH_]; rfl, by rw [cH_]; rfl, rfl, Nat.zero_le _⟩
 rintro J hJ N t h ⟨k, t1, t2, t3, t6, t7, t8, hM, o0, o1, o2, rfl, hk⟩
 have ml := hM.len
 have g2 := (List.getElem?_eq_some_iff.1 o2).1
 have hkl := sL_ x.Nodes n s k
 by_cases hlt : k < x.Nodes.length
 ·simp (disch := (first | omega | (simp only [ls_, la_, lc_, ln_]; first | done | omega))) only [go_sem, Nat.reduceEqDiff, Nat.reduceAdd, ↓reduceIte, t1, t2, t3, t8, o0, hlt, ac_.cells]
  refine aa_.call (hin x.Nodes[k] (hm _ (List.getElem_mem hlt)) _) ?_
  cases q : inN n s x.Nodes[k]
  ·simp (disch := (first | omega | (simp only [ls_, la_, lc_, ln_]; first | done | omega))) only [aS_, a6_, go_sem, Nat.reduceEqDiff, Nat.reduceAdd, Nat.reduceLeDiff, ↓reduceIte, t3, t7, t8, o0, o2, ac_.cells]
   repeat (refine And.intro (by first | omega | (exact strs_cellv _) | assumption | (simp; done)) ?_)
   have e1 := qk_ hlt q
   refine ⟨x.Nodes.length - (k + 1), by omega, hJ _ _ _ ⟨k + 1, by simp [upd, t1], by simp [upd, t2], by simp [upd, t3], by simp [upd, t6], by rw [e1]; simp [upd], by simp [upd], (hM.add _).set (by omega), ?_, ?_, ?_, rfl, by omega⟩⟩
   ·(repeat (first | rw [a9_ (by omega)] | rw [aS_ (by first | omega | (simp only [ls_, la_, lc_, ln_]; omega))])); exact o0
   ·(repeat (first | rw [a9_ (by omega)] | rw [aS_ (by first | omega | (simp only [ls_, la_, lc_, ln_]; omega))])); exact o1
   ·rw [e1, List.map_append]; exact bf_ (by simp; omega)
  ·simp (disch := (first | omega | (simp only [ls_, la_, lc_, ln_]; first | done | omega))) only [go_sem, Nat.reduceEqDiff, ↓reduceIte, t8]
   have e1 := qL_ hlt q
   exact ⟨x.Nodes.length - (k + 1), by omega, hJ _ _ _ ⟨k + 1, by simp [upd, t1], by simp [upd, t2], by simp [upd, t3], by simp [upd, t6], by rw [e1]; simp [upd, t7], by simp [upd], hM, o0, o1, by rw [e1]; exact o2, rfl, by omega⟩⟩
 ·have e : k = x.Nodes.length := by omega
  subst e
  rw [List.take_length] at t7 o2
  simp (disch := (first | omega | (simp only [ls_, la_, lc_, ln_]; first | done | omega))) only [go_sem, Nat.reduceEqDiff, ↓reduceIte, t3, t7, t8, o0, hlt]
  have hz : ap_ ac_.sz (cC_ x.Nodes n s) ≤ 1048576 := Nat.le_trans (tP_ x n s) hx
  refine fE_ (e2_ (cC_ x.Nodes n s) hz) (bj_.cons (cw_.res (n := 3) (kb_ o2 (by simp) (m3_ _))) bj_.nil) (fun av H1 m1 F1 q1 => ?_)
  obtain ⟨l, rfl⟩ := q1
  have p1 := m1.at o1
  have l1 := m1.len
  simp (disch := (first | omega | (simp only [ls_, la_, lc_, ln_]; first | done | omega))) only [bf_, go_sem, Nat.reduceEqDiff, ↓reduceIte, t6, p1, bA_, Option.map_some]
  refine ⟨⟨(hM.trans m1).set (by omega), ?_⟩, _, rfl⟩
  exact (aF_.agg (as_.cons (F1.tree.keep fun y r1 r2 => by (repeat (first | rw [a9_ (by omega)] | rw [aS_ (by first | omega | (simp only [ls_, la_, lc_, ln_]; omega))]))) (as_.nil _ _ _) ⟨l1, Nat.le_refl _⟩)).widen (by omega) (by simp)
theorem xe_ {h0 hn : List Row} {x1 x2 y1 y2 : Row} {l : Nat} (h : (h0 ++ [y1, y2]).length ≤ l) : (h0 ++ x1 :: x2 :: hn)[l]? = ((h0 ++ [y1, y2]) ++ hn)[l]? := by
 simp only [la_, lc_, ln_] at h
 rw [List.append_assoc, List.getElem?_append_right (by omega), List.getElem?_append_right (by omega)]
 obtain ⟨m, hm⟩ : ∃ m, l - h0.length = m + 2 := ⟨l - h0.length - 2, by omega⟩
 rw [hm]; rfl
theorem rs_ {h0 hn : List Row} {x1 x2 y1 y2 : Row} {n v : ByteArray} {s : List ByteArray} {l : Nat} (hf : dV_ (h0 ++ [y1, y2]).length ((h0 ++ [y1, y2]) ++ hn) (.own l s.length) (.list 0 1 (s.map ar_))) :
 dV_ h0.length (h0 ++ x1 :: x2 :: hn) (.agg [.val (.string n), .own l s.length, .val (.string v)]) (.agg (ac_.cells ⟨n, s, v⟩)) := by
 have hb := (hf.b.keep (H' := h0 ++ x1 :: x2 :: hn) fun l q1 q2 => xe_ q1).widen (lo' := h0.length) (hi' := (h0 ++ x1 :: x2 :: hn).length) (by simp) (by simp)
 exact (aF_.agg (as_.val _ (as_.cons hb (as_.val _ (as_.nil _ _ _)) ⟨by simp, Nat.le_refl _⟩))).fresh
def hp_ (P : Program) (f : FuncId) (args : List AV) (r : AV) (Q : AV → List Row → Prop) : Prop :=
 ∀ (h : List Row) (K : AV → List Row → Prop), (∀ av H', aI_ h H' → FB h.length H'.length H' av r → Q av H' → K av H') → callSem P f args h K
theorem sC_ {P : Program} {f : FuncId} {fn : Func} {lf : LF} {args : List AV} {r : AV} {Q : AV → List Row → Prop} (hmx : P.follows .mixedOrders = true) (hf : P.funcs[f]? = some fn) (hl : at_ P fn lf) (hn : args.length = lf.np)
 (hw : ∀ h : List Row, Ex P lf.N (cR_ lf.res fun av h' => Res h h' av r ∧ Q av h') lf.body [] (fm_ args) h) : hp_ P f args r Q := by
 intro h K hk
 refine (bq_ hmx hf hl (cg_ hn (hw h))).mono ?_
 rintro a h' ⟨⟨m, h1⟩, h2⟩
 exact hk a h' m ⟨h1, Nat.le_refl _⟩ h2
theorem hp_.call {P : Program} {f : FuncId} {args : List AV} {r : AV} {Q : AV → List Row → Prop} {Q' : AV → Prop} (hc : hp_ P f args r Q) (hq : ∀ a H, Q a H → Q' a) : aN_ P f args r Q' := by
 intro h K hk
 refine hc h K fun av H' m F q => ?_
 obtain ⟨hn, rfl⟩ := m.tail
 exact hk av hn F.tree.fresh (hq _ _ q)
abbrev rW_ (x : ac_) (a : AV) : Prop := ∃ l, a = .agg [.val (.string x.Name), .own l x.Subs.length, .val (.string x.Value)]
def c93 : LC :=
 .seq (.ops [.s 1 (.box 112 (.tmp 0)), .s 2 (.alloc 112 (.agg #[.string ⟨#[]⟩, .slice none 0 0, .string ⟨#[]⟩]))]) (.seq (.ops [.fa 3 1 1, .ln 4 3, .c1 5 144 4, .fa 6 1 1, .st 1 6 5]) (.seq (.ops [.ld 7 3 1, .st 3 2 7])
 .ret))
def zT_ : LF := ⟨1, 8, c93, [.cell 2 (some 3)]⟩
theorem BB_ : at_ Tryz.prog Tryz.f93 zT_ := ah_
theorem jg_ (x : ac_) (hx : ac_.sz x ≤ 1048576) : aN_ Tryz.prog 93 [.agg (ac_.cells x)] (.agg (ac_.cells x)) (rW_ x) := by
 refine c6_ mixed Tryz.func93 BB_ rfl (fun h0 => ?_)
 have h2 := aJ_ (ac_.sz_Subs hx)
 simp (disch := omega) only [zT_, c93, ac_.cells, go_sem, Nat.reduceEqDiff, Nat.reduceAdd, ↓reduceIte]
 refine cD_ x.Subs h2 _ _ (fun av hn hf hq => ?_)
 obtain ⟨l, rfl⟩ := hq
 simp (disch := omega) only [cl_, List.append_assoc, go_sem, Nat.reduceEqDiff, Nat.reduceAdd, Nat.reduceLeDiff, ↓reduceIte]
 exact ⟨_, rfl, rs_ hf, _, rfl⟩
def c49 : LC :=
 .seq (.ops [.s 1 (.box 30 (.tmp 0)), .s 2 (.alloc 30 (.agg #[.slice none 0 0]))]) (.seq (.ops [.s 6 (.build (.agg #[.slice none 0 0]) [(0, 1)] []), .s 3 (.alloc 30 (.agg #[.slice none 0 0])), .st 1 3 6]) (.seq (.seq
 (.ops [.fa 7 0 1, .ln 8 7, .ll 9 8, .ki 10 0]) (.block 0 (.ghost (.loop (.seq (.ops [.bb 11 .lss false 10 9]) (.seq (.cond (.tmp 11) .skip (.exit 0)) (.seq (.block 1 (.seq (.ops [.ia 12 3 8 10, .ld 13 3 12, .s 5 (.alloc
 112 (.agg #[.string ⟨#[]⟩, .slice none 0 0, .string ⟨#[]⟩])), .st 3 5 13]) (.gops [.fa 14 0 3, .ln 15 14, .ld 16 3 5] [(.c1 17 93 16, [.fa 14 0 3, .ln 15 14]), (.s 18 (.buildSlice 112 3 (.agg #[.string ⟨#[]⟩, .slice none
 0 0, .string ⟨#[]⟩]) 1 [(0, .tmp 17)]), [.fa 14 0 3, .ln 15 14]), (.ap 19 112 3 56 15 18, []), (.fa 20 0 3, []), (.st 1 20 19, [])]))) (.ops [.bk 21 .add false 10 1, .m 10 21])))))))) (.seq (.ops [.ld 22 1 3, .st 1 2
 22]) .ret)))
def xf_ : LF := ⟨1, 23, c49, [.cell 2 (some 1)]⟩
theorem Bs_ : at_ Tryz.prog Tryz.f49 xf_ := ah_
theorem kh_ (x : af_) (hx : af_.sz x ≤ 1048576) : hp_ Tryz.prog 49 [.agg (af_.cells x)] (.agg (af_.cells x)) (fun a H => ∃ l, a = .agg [.own l x.Nodes.length] ∧ ∃ es, H[l]? = some ⟨112, 3, es⟩) := by
 refine sC_ mixed Tryz.func49 Bs_ rfl (fun h0 => ?_)
 have hs := af_.sz_Nodes hx
 have hl := aJ_ hs
 have hm : ∀ e ∈ x.Nodes, ac_.sz e ≤ 1048576 := fun e he => by have := b5_ (f := ac_.sz) he; omega
 simp (disch := omega) only [xf_, c49, af_.cells, bA_, Option.map_some, go_sem, Nat.reduceEqDiff, Nat.reduceAdd, ↓reduceIte]
 refine oN_ (h0 ++ [⟨30, 1, [[.list 0 3 (x.Nodes.map ac_.cells)]]⟩, ⟨30, 1, [[.val (.slice none 0 0)]]⟩, ⟨30, 1, [[.own (h0.length + 3) 0]]⟩, ⟨112, 3, []⟩]) (fun t => sD_ (h0 ++ [⟨30, 1, [[.list 0 3 (x.Nodes.map ac_.cells)]]⟩, ⟨30, 1, [[.val (.slice none 0 0)]]⟩]) [] (.ty 30) 1 [] [] 112 3 (h0.length + 3) (by simp) (by simp) (by simp)) ?_
 refine aK_ (fun n t h => ∃ (k : Nat) (done : List (List AV)), t 2 = .ptr (h0.length + 1) 1 0 0 ∧ t 3 = .ptr (h0.length + 2) 1 0 0 ∧ t 8 = .list 0 3 (x.Nodes.map ac_.cells) ∧ t 9 = .val (.int .i64 x.Nodes.length) ∧ t 10 = .val (.int .i64 k) ∧ aI_ h0 h ∧
  h[h0.length + 1]? = some ⟨30, 1, [[.val (.slice none 0 0)]]⟩ ∧ h[h0.length + 2]? = some ⟨30, 1, [[.own (h0.length + 3) k]]⟩ ∧
  cj_ (h0.length + 3) h 112 3 done ((x.Nodes.take k).map ac_.cells) ∧ done.length = k ∧ n = x.Nodes.length - k ∧ k ≤ x.Nodes.length) x.Nodes.length ?_ ?_
 ·exact ⟨0, [], rfl, rfl, rfl, rfl, rfl, aI_.app _ _, by rw [cH_]; rfl, by rw [cH_]; rfl, cj_.zero (by rw [cH_]; rfl), rfl, rfl, Nat.zero_le _⟩
 rintro J hJ n t h ⟨k, done, t2, t3, t8, t9, t10, hM, o1, o2, hG, hd, rfl, hk⟩
 have o3 := hG.row
 by_cases hlt : k < x.Nodes.length
 ·have w2 := fun l => aC_ (l := l) o2
  have ml := hM.len
  have gl := hG.lt
  simp (disch := omega) only [t2, t3, t8, t9, t10, o2, w2, hlt, ac_.cells, ao_, go_sem, Nat.reduceEqDiff, Nat.reduceAdd, ↓reduceIte]
  refine b0_ (jg_ x.Nodes[k] (hm _ (List.getElem_mem hlt))) (fun av H1 m1 F1 q1 => ?_)
  obtain ⟨l, rfl⟩ := q1
  have p1 := m1.at (aC_ o1)
  have p2 := m1.at (aC_ o2)
  have p3 := m1.at (aC_ o3)
  have v1 := fun l => aC_ (l := l) p1
  have v2 := fun l => aC_ (l := l) p2
  have v3 := fun l => aC_ (l := l) p3
  have l1 := m1.len
  simp only [la_, lc_, ln_] at l1
  have z2 := fun r l => wv_ (l := l) (i := h0.length + 3) p2 r (by omega)
  simp (disch := omega) only [t3, t10, p2, v2, v3, z2, hd, tK_, List.set_append_left, go_sem, Nat.reduceEqDiff, Nat.reduceAdd, Nat.reduceLeDiff, ↓reduceIte]
  refine ⟨by omega, by omega, x.Nodes.length - (k + 1), by omega, hJ _ _ _ ⟨k + 1, done ++ [[.val (.string x.Nodes[k].Name), .own l x.Nodes[k].Subs.length, .val (.string x.Nodes[k].Value)]], by simp [upd, t2], by simp [upd, t3], by simp [upd, t8], by simp [upd, t9], by simp [upd], ?_, ?_, ?_, ?_, ?_, rfl, by omega⟩⟩
  ·exact ((((hM.add _).trans m1).set (by omega)).set (by omega)).add _
  ·exact aC_ (by rw [List.getElem?_set_ne (by omega), List.getElem?_set_ne (by omega)]; exact p1)
  ·exact wp_ (by rw [List.getElem?_set_ne (by omega)]; exact p2) _
  ·rw [List.take_succ_eq_append_getElem hlt, List.map_append]
   refine (hG.more (H' := h ++ [_]) (by simp) (fun y q1 q2 => List.getElem?_append_left q2)).step F1.tree.unagg m1.len (fun y q1 q2 => m1.kept y q2) (by simp) (fun y q1 q2 => ?_) ?_
   ·rw [List.getElem?_append_left (by simpa using q2), List.getElem?_set_ne (by omega), List.getElem?_set_ne (by omega)]
   ·exact aC_ (by rw [List.getElem?_set_ne (by omega)]; exact jj_ p3 _)
  ·simp [hd]
 ·have u1 := fun r => jj_ o1 r
  simp (disch := omega) only [t2, t3, t8, t9, t10, o1, o2, u1, hlt, ao_, go_sem, Nat.reduceEqDiff, Nat.reduceAdd, ↓reduceIte]
  have e : k = x.Nodes.length := by omega
  subst e
  rw [List.take_length] at hG
  have g2 := hG.more (H' := h.set (h0.length + 1) ⟨30, 1, [[.own (h0.length + 3) x.Nodes.length]]⟩) (by simp) (fun y q1 q2 => by rw [List.getElem?_set_ne (by omega)])
  exact ⟨⟨hM.set (by omega), (aF_.agg (as_.cons (g2.done hd) (as_.nil _ _ _) ⟨Nat.le_of_lt g2.lt, Nat.le_refl _⟩)).widen (by omega) (Nat.le_refl _)⟩, _, rfl, done, g2.row⟩
end Go.Proofs.YtfplhbjggecnpaaGreatDoor
