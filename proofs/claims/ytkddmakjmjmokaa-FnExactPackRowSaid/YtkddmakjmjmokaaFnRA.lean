/-
 Contracts of functions. Conditions: as each theorem says.
-/
import Derived.Test.YtkddmakjmjmokaaBase
import Derived.Test.YtkddmakjmjmokaaAwC
namespace Go.Proofs.Ytkddmakjmjmokaa
open Nat (reduceEqDiff reduceLeDiff)
open List
open Go.AW
set_option linter.unusedVariables false
set_option linter.unusedSimpArgs false
set_option maxRecDepth 4000
def bH_ (b : Int) : Bool := decide (97 ≤ b) && decide (b ≤ 122) || decide (65 ≤ b) && decide (b ≤ 90)
def cO_ (b : Int) : Bool := decide (48 ≤ b) && decide (b ≤ 57)
def b4_ (x lo hi : Int) : Bool := decide (lo ≤ x) && decide (x ≤ hi)
def c35 : LC :=
 .q [.o [.f 2], .o [.m 3 0, .s 4 (.bin .leq false (.const (.int .u8 97)) (.tmp 3)), .m 5 4, .gm 6 5 true 0, .g 7 5 true (.bin .leq false (.tmp 6) (.const (.int .u8 122))), .pf 8 5 7, .m 9 8, .gm 10 9 false 0, .g 11 9
 false (.bin .leq false (.const (.int .u8 65)) (.tmp 10)), .gm 12 9 false 11, .gm 13 12 true 0, .g 14 12 true (.bin .leq false (.tmp 13) (.const (.int .u8 90))), .g 15 9 false (.pick (.tmp 12) (.tmp 14) (.const (.bool
 false))), .pt 16 9 15, .m 2 16], .ret]
def k4_ : LF := ⟨1, 17, c35, [.tmp 2]⟩
theorem mk_ : aF_ Try.prog Try.f35 k4_ := ax_
theorem bW_ (b : Int)  (h : List Row) : aa_ Try.prog 35 [.val (.int .u8 b)] h (.val (.bool (bH_ b))) := by
 refine as_ mixed Try.func35 mk_ rfl rfl ?_ h
 simp (disch := omega) only [k4_, c35, go_sem, reduceCtorEq, ↓reduceIte]
 repeat' (first
  | exact al_ _ _
  | (refine ah_ ?_; first | rfl | (simp only [bH_, *, Bool.true_and, Bool.and_false, Bool.false_and, Bool.true_or, Bool.false_or, decide_true, decide_false, Bool.and_self, Bool.or_self]; done) | (simp [bH_, *]; done))
  | simp (disch := omega) only [go_sem, reduceEqDiff, reduceCtorEq, ↓reduceIte]
  | ((first | (apply b3_; assumption) | (apply b2_; assumption) | (apply cD_; assumption) | (apply cC_; assumption)); intro hb; try simp only [hb])
  | ((first | (apply a1_; assumption) | (apply a3_; assumption) | (apply bj_; assumption) | (apply bi_; assumption)); intro hb; try simp only [hb])
  | ((first | apply a4_ | apply bd_ | apply aC_ | apply aJ_) <;> intro hb <;> (try simp only [hb]) <;> (first | have hp := bK_ hb | have hp := bE_ hb | have hp := bG_ hb | have hp := bJ_ hb | skip)))
def c54 : LC :=
 .q [.o [.f 2], .o [.m 3 0, .s 4 (.bin .geq false (.tmp 3) (.const (.int .u8 97))), .m 5 4, .gm 6 5 true 0, .g 7 5 true (.bin .leq false (.tmp 6) (.const (.int .u8 122))), .pf 8 5 7, .m 9 8, .gm 10 9 false 0, .g 11 9
 false (.bin .geq false (.tmp 10) (.const (.int .u8 65))), .gm 12 9 false 11, .gm 13 12 true 0, .g 14 12 true (.bin .leq false (.tmp 13) (.const (.int .u8 90))), .g 15 9 false (.pick (.tmp 12) (.tmp 14) (.const (.bool
 false))), .pt 16 9 15, .m 2 16], .ret]
def lD_ : LF := ⟨1, 17, c54, [.tmp 2]⟩
theorem ma_ : aF_ Try.prog Try.f54 lD_ := ax_
theorem bc_ (b : Int)  (h : List Row) : aa_ Try.prog 54 [.val (.int .u8 b)] h (.val (.bool (bH_ b))) := by
 refine as_ mixed Try.func54 ma_ rfl rfl ?_ h
 simp (disch := omega) only [lD_, c54, go_sem, reduceCtorEq, ↓reduceIte]
 repeat' (first
  | exact al_ _ _
  | (refine ah_ ?_; first | rfl | (simp only [bH_, *, Bool.true_and, Bool.and_false, Bool.false_and, Bool.true_or, Bool.false_or, decide_true, decide_false, Bool.and_self, Bool.or_self]; done) | (simp [bH_, *]; done))
  | simp (disch := omega) only [go_sem, reduceEqDiff, reduceCtorEq, ↓reduceIte]
  | ((first | (apply b3_; assumption) | (apply b2_; assumption) | (apply cD_; assumption) | (apply cC_; assumption)); intro hb; try simp only [hb])
  | ((first | (apply a1_; assumption) | (apply a3_; assumption) | (apply bj_; assumption) | (apply bi_; assumption)); intro hb; try simp only [hb])
  | ((first | apply a4_ | apply bd_ | apply aC_ | apply aJ_) <;> intro hb <;> (try simp only [hb]) <;> (first | have hp := bK_ hb | have hp := bE_ hb | have hp := bG_ hb | have hp := bJ_ hb | skip)))
def c36 : LC :=
 .q [.o [.f 2], .o [.m 3 0, .s 4 (.bin .leq false (.const (.int .u8 48)) (.tmp 3)), .m 5 4, .gm 6 5 true 0, .g 7 5 true (.bin .leq false (.tmp 6) (.const (.int .u8 57))), .pf 8 5 7, .m 2 8], .ret]
def ld_ : LF := ⟨1, 9, c36, [.tmp 2]⟩
theorem mj_ : aF_ Try.prog Try.f36 ld_ := ax_
theorem cc_ (b : Int)  (h : List Row) : aa_ Try.prog 36 [.val (.int .u8 b)] h (.val (.bool (cO_ b))) := by
 refine as_ mixed Try.func36 mj_ rfl rfl ?_ h
 simp (disch := omega) only [ld_, c36, go_sem, reduceCtorEq, ↓reduceIte]
 repeat' (first
  | exact al_ _ _
  | (refine ah_ ?_; first | rfl | (simp only [cO_, *, Bool.true_and, Bool.false_and, decide_true, decide_false]; done) | (simp [cO_, *]; done))
  | simp (disch := omega) only [go_sem, reduceEqDiff, reduceCtorEq, ↓reduceIte]
  | ((first | (apply b3_; assumption) | (apply b2_; assumption) | (apply cD_; assumption) | (apply cC_; assumption)); intro hb; try simp only [hb])
  | ((first | (apply a1_; assumption) | (apply a3_; assumption) | (apply bj_; assumption) | (apply bi_; assumption)); intro hb; try simp only [hb])
  | ((first | apply a4_ | apply bd_ | apply aC_ | apply aJ_) <;> intro hb <;> (try simp only [hb]) <;> (first | have hp := bK_ hb | have hp := bE_ hb | have hp := bG_ hb | have hp := bJ_ hb | skip)))
def c55 : LC :=
 .q [.o [.f 2], .o [.m 3 0, .s 4 (.bin .geq false (.tmp 3) (.const (.int .u8 48))), .m 5 4, .gm 6 5 true 0, .g 7 5 true (.bin .leq false (.tmp 6) (.const (.int .u8 57))), .pf 8 5 7, .m 2 8], .ret]
def lp_ : LF := ⟨1, 9, c55, [.tmp 2]⟩
theorem mf_ : aF_ Try.prog Try.f55 lp_ := ax_
theorem bX_ (b : Int)  (h : List Row) : aa_ Try.prog 55 [.val (.int .u8 b)] h (.val (.bool (cO_ b))) := by
 refine as_ mixed Try.func55 mf_ rfl rfl ?_ h
 simp (disch := omega) only [lp_, c55, go_sem, reduceCtorEq, ↓reduceIte]
 repeat' (first
  | exact al_ _ _
  | (refine ah_ ?_; first | rfl | (simp only [cO_, *, Bool.true_and, Bool.false_and, decide_true, decide_false]; done) | (simp [cO_, *]; done))
  | simp (disch := omega) only [go_sem, reduceEqDiff, reduceCtorEq, ↓reduceIte]
  | ((first | (apply b3_; assumption) | (apply b2_; assumption) | (apply cD_; assumption) | (apply cC_; assumption)); intro hb; try simp only [hb])
  | ((first | (apply a1_; assumption) | (apply a3_; assumption) | (apply bj_; assumption) | (apply bi_; assumption)); intro hb; try simp only [hb])
  | ((first | apply a4_ | apply bd_ | apply aC_ | apply aJ_) <;> intro hb <;> (try simp only [hb]) <;> (first | have hp := bK_ hb | have hp := bE_ hb | have hp := bG_ hb | have hp := bJ_ hb | skip)))
def c22 : LC :=
 .q [.o [.f 6], .o [.m 7 1, .m 8 0, .bb 9 .leq false 7 8, .m 10 9, .gm 11 10 true 0, .gm 12 10 true 2, .g 13 10 true (.bin .leq false (.tmp 11) (.tmp 12)), .pf 14 10 13, .m 6 14], .ret]
def k3_ : LF := ⟨3, 15, c22, [.tmp 6]⟩
theorem mq_ : aF_ Try.prog Try.f22 k3_ := ax_
theorem fY_ (x lo hi : Int)  (h : List Row) : aa_ Try.prog 22 [.val (.int .i64 x), .val (.int .i64 lo), .val (.int .i64 hi)] h (.val (.bool (b4_ x lo hi))) := by
 refine as_ mixed Try.func22 mq_ rfl rfl ?_ h
 simp (disch := omega) only [k3_, c22, go_sem, reduceEqDiff, reduceCtorEq, ↓reduceIte]
 repeat' (first
  | exact al_ _ _
  | (refine ah_ ?_; first | rfl | (simp only [b4_, *, Bool.true_and, Bool.false_and, decide_true, decide_false]; done) | (simp [b4_, *]; done))
  | simp (disch := omega) only [go_sem, reduceEqDiff, reduceCtorEq, ↓reduceIte]
  | ((first | (apply b3_; assumption) | (apply b2_; assumption) | (apply cD_; assumption) | (apply cC_; assumption)); intro hb; try simp only [hb])
  | ((first | (apply a1_; assumption) | (apply a3_; assumption) | (apply bj_; assumption) | (apply bi_; assumption)); intro hb; try simp only [hb])
  | ((first | apply a4_ | apply bd_ | apply aC_ | apply aJ_) <;> intro hb <;> (try simp only [hb]) <;> (first | have hp := bK_ hb | have hp := bE_ hb | have hp := bG_ hb | have hp := bJ_ hb | skip)))
def c40 : LC :=
 .q [.o [.ki 4 0], .q [.o [.m 6 0, .ll 7 6, .ki 8 0], .block 0 (.loop (.q [.o [.bb 9 .lss false 8 7], .k 9 .skip (.exit 0), .block 1 (.q [.o [.m 10 8, .m 5 10], .o [.m 11 1, .m 12 0, .m 13 5, .ia 14 1 12 13, .ln 15 14, .s
 16 (.callv (.tmp 11) [.tmp 15])], .k 16 (.q [.o [.m 17 5, .m 4 17], .ret]) .skip]), .o [.bk 18 .add false 8 1, .m 8 18]]))], .o [.s 4 (.mov (.const (.int .i64 (-1))))], .ret]
def kZ_ : LF := ⟨2, 19, c40, [.tmp 4]⟩
theorem ml_ : aF_ Try.prog Try.f40 kZ_ := ax_
theorem dk_ (xs : List ByteArray) (p : ByteArray → Bool) (g : Nat) (hx : xs.length ≤ 1048576) (hc : bY_ Try.prog g = true) (hp : ∀ x ∈ xs, ∀ h, aa_ Try.prog g [.val (.string x)] h (.val (.bool (p x)))) (h : List Row) :
 aa_ Try.prog 40 [.list 0 1 (xs.map aA_), .fn g [] []] h (.val (.int .i64 (a0_ p xs 0))) := by
 refine as_ mixed Try.func40 ml_ rfl rfl ?_ h
 simp (disch := omega) only [kZ_, c40, go_sem, reduceCtorEq, Int.reduceNeg, ↓reduceIte]
 refine bb_ (fun n t h => ∃ k : Nat, t 0 = .list 0 1 (xs.map aA_) ∧ t 1 = .fn g [] [] ∧ t 6 = .list 0 1 (xs.map aA_) ∧ t 7 = .val (.int .i64 xs.length) ∧ t 8 = .val (.int .i64 k) ∧ n = xs.length - k ∧ k ≤ xs.length ∧ (a0_ p xs 0 = a0_ p (xs.drop k) k)) (xs.length) ?_ ?_
 ·exact ⟨0, rfl, rfl, rfl, rfl, rfl, rfl, Nat.zero_le _, rfl⟩
 ·rintro J hJ n t h ⟨k, t0, t1, t6, t7, k8, rfl, hk, hS⟩
  by_cases hlt : k < xs.length
  ·skip
   rw [dL_ p xs k hlt] at hS
   simp (disch := omega) only [t0, t1, t7, k8, hlt, hc, aA_, go_sem, reduceEqDiff, reduceCtorEq, Int.reduceNeg, ↓reduceIte]
   repeat' (first
    | exact al_ _ _
    | exact ⟨xs.length - (k + 1), by omega, hJ _ _ _ ⟨k + 1, by simp [upd, t0], by simp [upd, t1], by simp [upd, t6], by simp [upd, t7], by simp [upd], rfl, by omega, by rw [hS]; simp [*]⟩⟩
    | (refine aQ_ ?_; rw [hS]; simp [*]; done)
    | (refine aQ_ ?_; rw [hS, b5_ _ _ _ (by omega)])
    | simp (disch := omega) only [k8, go_sem, reduceEqDiff, Int.reduceNeg, ↓reduceIte]
    | (refine aa_.call (hp xs[k] (getElem_mem hlt) _) ?_)
    | (refine aa_.q (hp xs[k] (getElem_mem hlt) _) ?_)
    | ((first | (apply a1_; assumption) | (apply a3_; assumption) | (apply bj_; assumption) | (apply bi_; assumption)); intro hb; try simp only [hb])
    | ((first | apply aC_ | apply aJ_) <;> intro hb <;> (try simp only [hb]) <;> (first | have hp := bK_ hb | have hp := bE_ hb | have hp := bG_ hb | have hp := bJ_ hb | skip)))
  ·skip
   simp (disch := omega) only [t7, k8, hlt, go_sem, Int.reduceNeg, ↓reduceIte]
   repeat' (first
    | exact al_ _ _
    | (refine aQ_ ?_; rw [hS]; simp [*]; done)
    | (refine aQ_ ?_; rw [hS, b5_ _ _ _ (by omega)])
    | simp (disch := omega) only [t0, t1, t6, t7, k8, go_sem, reduceEqDiff, Nat.reduceAdd, reduceLeDiff, reduceCtorEq, Int.reduceLT, Int.reduceLE, Int.reduceNeg, Int.reduceSub, Int.reduceAdd, Int.reduceToNat, ↓reduceIte]
    | (refine aa_.call (hp xs[k] (getElem_mem hlt) _) ?_)
    | (refine aa_.q (hp xs[k] (getElem_mem hlt) _) ?_)
    | ((first | (apply a1_; assumption) | (apply a3_; assumption) | (apply bj_; assumption) | (apply bi_; assumption)); intro hb; try simp only [hb])
    | ((first | apply aC_ | apply aJ_) <;> intro hb <;> (try simp only [hb]) <;> (first | have hp := bK_ hb | have hp := bE_ hb | have hp := bG_ hb | have hp := bJ_ hb | skip)))
def c25 : LC :=
 .q [.o [.f 4], .o [.m 5 0, .m 6 1, .c2 7 40 5 6, .bk 8 .geq false 7 0, .m 4 8], .ret]
def lf_ : LF := ⟨2, 9, c25, [.tmp 4]⟩
theorem mu_ : aF_ Try.prog Try.f25 lf_ := ax_
theorem bL_ (xs : List ByteArray) (p : ByteArray → Bool) (g : Nat) (hx : xs.length ≤ 1048576) (hc : bY_ Try.prog g = true) (hp : ∀ x ∈ xs, ∀ h, aa_ Try.prog g [.val (.string x)] h (.val (.bool (p x)))) (h : List Row) :
 aa_ Try.prog 25 [.list 0 1 (xs.map aA_), .fn g [] []] h (.val (.bool (xs.any p))) := by
 refine as_ mixed Try.func25 mu_ rfl rfl ?_ h
 simp (disch := omega) only [lf_, c25, go_sem, reduceEqDiff, reduceCtorEq, ↓reduceIte]
 refine aa_.call (dk_ xs p g hx hc hp _) ?_
 simp (disch := omega) only [go_sem, ↓reduceIte]
 exact ah_ (hv_ p xs)
theorem hM_ {α : Type} (p : α → Bool) (xs : List α) : (!xs.any fun x => !p x) = xs.all p := by
 induction xs with
 | nil => rfl
 | cons x xs ih => simp only [any_cons, all_cons, Bool.not_or, Bool.not_not, ih]
def br_ : List Int → Nat → Bool
 | [], _ => true
 | b :: bs, k => (bH_ b || (decide (k = 0) && decide (b = 37)) || (!decide (k = 0) && cO_ b)) && br_ bs (k + 1)
def aN_ (s : ByteArray) : Bool := decide (1 ≤ (s.size : Int)) && decide ((s.size : Int) ≤ 8) && br_ (aO_ s) 0
theorem cA_ (bs : List Int) (k : Nat) (h : k < bs.length) : br_ (bs.drop k) k = ((bH_ bs[k] || (decide (k = 0) && decide (bs[k] = 37)) || (!decide (k = 0) && cO_ bs[k])) && br_ (bs.drop (k + 1)) (k + 1)) := by
 rw [drop_eq_getElem_cons h]; rfl
theorem cY_ (bs : List Int) (k : Nat) (h : bs.length ≤ k) : br_ (bs.drop k) k = true := by
 rw [drop_eq_nil_of_le h]; rfl
def c21 : LC :=
 .q [.o [.f 2], .q [.o [.ki 3 0], .block 0 (.loop (.q [.q [.o [.m 5 3, .m 6 0, .s 7 (.lenStr (.tmp 6)), .bb 8 .lss false 5 7], .k 8 .skip (.exit 0)], .block 1 (.q [.o [.m 11 0, .m 12 3, .s 13 (.indexStr (.tmp 11) (.tmp
 12)), .c1 14 35 13, .m 15 14, .gm 16 15 false 3, .g 17 15 false (.bin .eql false (.tmp 16) (.const (.int .i64 0))), .gm 18 15 false 17, .gm 19 18 true 0, .gm 20 18 true 3, .g 21 18 true (.indexStr (.tmp 19) (.tmp 20)),
 .g 22 18 true (.bin .eql false (.tmp 21) (.const (.int .u8 37))), .g 23 15 false (.pick (.tmp 18) (.tmp 22) (.const (.bool false))), .pt 24 15 23, .m 4 24], .o [.m 25 4, .nt 26 25, .m 27 26, .gm 28 27 true 3, .g 29 27
 true (.bin .eql false (.tmp 28) (.const (.int .i64 0))), .gm 30 27 true 29, .gm 31 30 false 0, .gm 32 30 false 3, .g 33 30 false (.indexStr (.tmp 31) (.tmp 32)), .gc 34 30 false 36 33, .gu 35 30 false 34, .g 36 27 true
 (.pick (.tmp 30) (.const (.bool true)) (.tmp 35)), .pf 37 27 36], .k 37 (.q [.o [.f 2], .ret]) .skip]), .o [.m 9 3, .bk 10 .add false 9 1, .m 3 10]]))], .o [.m 38 0, .s 39 (.lenStr (.tmp 38)), .bk 40 .geq false 39 1, .m
 41 40, .gm 42 41 true 0, .g 43 41 true (.lenStr (.tmp 42)), .g 44 41 true (.bin .leq false (.tmp 43) (.const (.int .i64 8))), .pf 45 41 44, .m 2 45], .ret]
def lE_ : LF := ⟨1, 46, c21, [.tmp 2]⟩
theorem lR_ : aF_ Try.prog Try.f21 lE_ := ax_
theorem cl_ (s : ByteArray) (hs : s.size ≤ 1048576) (h : List Row) : aa_ Try.prog 21 [.val (.string s)] h (.val (.bool (aN_ s))) := by
 refine as_ mixed Try.func21 lR_ rfl rfl ?_ h
 have hl := aU_ s
 simp (disch := omega) only [lE_, c21, go_sem]
 refine bb_ (fun n t h => ∃ k : Nat, t 0 = .val (.string s) ∧ t 3 = .val (.int .i64 k) ∧ n = s.size - k ∧ k ≤ s.size ∧ (br_ (aO_ s) 0 = br_ ((aO_ s).drop k) k)) (s.size) ?_ ?_
 ·exact ⟨0, rfl, rfl, rfl, Nat.zero_le _, rfl⟩
 ·rintro J hJ n t h ⟨k, t0, k3, rfl, hk, hS⟩
  by_cases hlt : k < s.size
  ·skip
   rw [cA_ (aO_ s) k (by omega)] at hS
   simp (disch := omega) only [t0, k3, hlt, go_sem, reduceEqDiff, reduceCtorEq, ↓reduceIte]
   repeat' (first
    | exact al_ _ _
    | exact ⟨s.size - (k + 1), by omega, hJ _ _ _ ⟨k + 1, by simp [upd, t0], by simp [upd], rfl, by omega, by rw [hS]; first | (simp only [*, Bool.true_and, Bool.false_and, Bool.or_true, Bool.true_or, Bool.or_false, Bool.not_true, Bool.not_false, Bool.and_self, Bool.or_self]; done) | simp [*]⟩⟩
    | (refine ah_ ?_; simp only [aN_]; rw [hS]; first | (simp only [*, Bool.and_false, Bool.false_and, Bool.not_true, Bool.not_false, Bool.or_self]; done) | (simp [*]; done))
    | (refine ah_ ?_; rw [cY_ _ _ (by omega)] at hS; simp only [aN_]; rw [hS]; first | (simp only [*, Bool.and_true, Bool.true_and, Bool.and_false, Bool.false_and, Bool.or_true, Bool.true_or, Bool.or_false, Bool.false_or, Bool.not_true, Bool.not_false, decide_true, decide_false, Bool.and_self, Bool.or_self]; done) | (simp [*]; done))
    | simp (disch := omega) only [t0, k3, go_sem, reduceEqDiff, reduceCtorEq, ↓reduceIte]
    | (refine aa_.call (bW_ _ _) ?_)
    | (refine aa_.q (bW_ _ _) ?_)
    | (refine aa_.call (cc_ _ _) ?_)
    | (refine aa_.q (cc_ _ _) ?_)
    | ((first | (apply b3_; assumption) | (apply b2_; assumption) | (apply cD_; assumption) | (apply cC_; assumption)); intro hb; try simp only [hb])
    | ((first | (apply a1_; assumption) | (apply a3_; assumption) | (apply bj_; assumption) | (apply bi_; assumption)); intro hb; try simp only [hb])
    | ((first | apply a4_ | apply bd_ | apply aC_ | apply aJ_) <;> intro hb <;> (try simp only [hb]) <;> (first | have hp := bK_ hb | have hp := bE_ hb | have hp := bG_ hb | have hp := bJ_ hb | skip)))
  ·skip
   simp (disch := omega) only [t0, k3, hlt, go_sem, reduceEqDiff, reduceCtorEq, ↓reduceIte]
   repeat' (first
    | exact al_ _ _
    | (refine ah_ ?_; simp only [aN_]; rw [hS]; first | (simp only [*, Bool.true_and, Bool.false_and, decide_true, decide_false]; done) | (simp [*]; done))
    | (refine ah_ ?_; rw [cY_ _ _ (by omega)] at hS; simp only [aN_]; rw [hS]; first | (simp only [*, Bool.and_true, Bool.true_and, decide_true]; done) | (simp [*]; done))
    | simp (disch := omega) only [t0, go_sem, reduceEqDiff, reduceCtorEq, ↓reduceIte]
    | (refine aa_.call (bW_ _ _) ?_)
    | (refine aa_.q (bW_ _ _) ?_)
    | (refine aa_.call (cc_ _ _) ?_)
    | (refine aa_.q (cc_ _ _) ?_)
    | ((first | (apply b3_; assumption) | (apply b2_; assumption) | (apply cD_; assumption) | (apply cC_; assumption)); intro hb; try simp only [hb])
    | ((first | (apply a1_; assumption) | (apply a3_; assumption) | (apply bj_; assumption) | (apply bi_; assumption)); intro hb; try simp only [hb])
    | ((first | apply a4_ | apply bd_ | apply aC_ | apply aJ_) <;> intro hb <;> (try simp only [hb]) <;> (first | have hp := bK_ hb | have hp := bE_ hb | have hp := bG_ hb | have hp := bJ_ hb | skip)))
theorem iz_ {s : ByteArray} (h3 : 0 < s.size) (h4 : bH_ ((aO_ s)[0]'(by rw [aU_]; exact h3)) = false) (h5 : decide (((aO_ s)[0]'(by rw [aU_]; exact h3)) = 37) = false) : aN_ s = false := by
 have h6 := cA_ (aO_ s) 0 (by rw [aU_]; exact h3)
 rw [drop_zero] at h6
 simp only [aN_, h6, h4, h5]; simp
theorem gP_ {s : ByteArray} (h1 : decide ((s.size : Int) < 1) = false) (h2 : decide (8 < (s.size : Int)) = false) (h3 : 0 < s.size) (h4 : bH_ ((aO_ s)[0]'(by rw [aU_]; exact h3)) = true ∨ ((aO_ s)[0]'(by rw [aU_]; exact h3)) = 37) : aN_ s = br_ ((aO_ s).drop 1) 1 := by
 have h5 := cA_ (aO_ s) 0 (by rw [aU_]; exact h3)
 rw [drop_zero] at h5
 have h6 := of_decide_eq_false h1
 have h7 := of_decide_eq_false h2
 have e1 : decide (1 ≤ (s.size : Int)) = true := by simp; omega
 have e2 : decide ((s.size : Int) ≤ 8) = true := by simp; omega
 simp only [aN_, e1, e2, h5, Bool.true_and]
 rcases h4 with h4 | h4 <;> simp [h4]
def c45 : LC :=
 .q [.o [.f 2], .q [.o [.m 4 0, .s 5 (.lenStr (.tmp 4)), .bk 6 .lss false 5 1, .m 7 6, .gm 8 7 false 0, .g 9 7 false (.lenStr (.tmp 8)), .g 10 7 false (.bin .gtr false (.tmp 9) (.const (.int .i64 8))), .pt 11 7 10, .m 12
 11, .gm 13 12 false 0, .g 14 12 false (.indexStr (.tmp 13) (.const (.int .i64 0))), .gc 15 12 false 54 14, .gu 16 12 false 15, .gm 17 12 false 16, .gm 18 17 true 0, .g 19 17 true (.indexStr (.tmp 18) (.const (.int .i64
 0))), .g 20 17 true (.bin .neq false (.tmp 19) (.const (.int .u8 37))), .g 21 12 false (.pick (.tmp 17) (.tmp 20) (.const (.bool false))), .pt 22 12 21], .k 22 (.q [.o [.f 2], .ret]) .skip], .q [.o [.ki 3 1], .block 0
 (.loop (.q [.q [.o [.m 23 3, .m 24 0, .s 25 (.lenStr (.tmp 24)), .bb 26 .lss false 23 25], .k 26 .skip (.exit 0)], .block 1 (.q [.o [.m 29 0, .m 30 3, .s 31 (.indexStr (.tmp 29) (.tmp 30)), .c1 32 54 31, .nt 33 32, .m 34
 33, .gm 35 34 true 0, .gm 36 34 true 3, .g 37 34 true (.indexStr (.tmp 35) (.tmp 36)), .gc 38 34 true 55 37, .gu 39 34 true 38, .pf 40 34 39], .k 40 (.q [.o [.f 2], .ret]) .skip]), .o [.m 27 3, .bk 28 .add false 27 1, .m
 3 28]]))], .o [.t 2], .ret]
def ib_ : LF := ⟨1, 41, c45, [.tmp 2]⟩
theorem mg_ : aF_ Try.prog Try.f45 ib_ := ax_
theorem dN_ (s : ByteArray) (hs : s.size ≤ 1048576) (h : List Row) : aa_ Try.prog 45 [.val (.string s)] h (.val (.bool (aN_ s))) := by
 refine as_ mixed Try.func45 mg_ rfl rfl ?_ h
 have hl := aU_ s
 by_cases h0 : (s.size : Int) < 1
 ·simp (disch := omega) only [ib_, c45, h0, go_sem, reduceEqDiff, reduceCtorEq, ↓reduceIte]
  exact ah_ (by simp [aN_, show ¬ (1 ≤ (s.size : Int)) by omega])
 by_cases h8 : 8 < (s.size : Int)
 ·simp (disch := omega) only [ib_, c45, h0, h8, go_sem, reduceEqDiff, reduceCtorEq, ↓reduceIte]
  exact ah_ (by simp [aN_, show ¬ ((s.size : Int) ≤ 8) by omega])
 have hpos : 0 < s.size := by omega
 have hle : (aO_ s)[0]? = some ((aO_ s)[0]'(by omega)) := getElem?_eq_getElem (by omega)
 simp (disch := omega) only [ib_, c45, h0, h8, go_sem, reduceEqDiff, reduceCtorEq, Int.reduceLE, ↓reduceIte]
 repeat' (first
  | exact al_ _ _
  | (refine ah_ ?_; apply Eq.symm; apply iz_ hpos <;> assumption)
  | (
   have hS0 : aN_ s = br_ ((aO_ s).drop 1) 1 := gP_ (by simp; omega) (by simp; omega) hpos (by simp_all)
   refine bb_ (fun n t h => ∃ k : Nat, t 0 = .val (.string s) ∧ t 3 = .val (.int .i64 k) ∧ n = s.size - k ∧ k ≤ s.size ∧ (br_ ((aO_ s).drop 1) 1 = br_ ((aO_ s).drop k) k ∧ 1 ≤ k)) (s.size - 1) ?_ ?_
   ·exact ⟨1, rfl, rfl, rfl, by omega, ⟨rfl, Nat.le_refl _⟩⟩
   ·rintro J hJ n t h ⟨k, t0, k3, rfl, hk, hS⟩
    by_cases hlt : k < s.size
    ·skip
     obtain ⟨hS, hk1⟩ := hS
     rw [cA_ (aO_ s) k (by omega)] at hS
     have hk0 : decide (k = 0) = false := by simp; omega
     simp only [hk0, Bool.false_and, Bool.or_false, Bool.not_false, Bool.true_and] at hS
     simp (disch := omega) only [t0, k3, hlt, go_sem, reduceEqDiff, reduceCtorEq, ↓reduceIte]
     repeat' (first
      | exact al_ _ _
      | exact ⟨s.size - (k + 1), by omega, hJ _ _ _ ⟨k + 1, by simp [upd, t0], by simp [upd], rfl, by omega, by refine ⟨?_, by omega⟩; rw [hS]; first | (simp only [*, Bool.true_and, Bool.or_true, Bool.true_or]; done) | simp [*]⟩⟩
      | (refine ah_ ?_; rw [hS0, hS]; first | (simp only [*, Bool.false_and, Bool.or_self]; done) | (simp [*]; done))
      | (refine ah_ ?_; rw [hS0, hS.1, cY_ _ _ (by omega)])
      | simp (disch := omega) only [t0, k3, go_sem, reduceEqDiff, reduceCtorEq, ↓reduceIte]
      | (refine aa_.call (bc_ _ _) ?_)
      | (refine aa_.q (bc_ _ _) ?_)
      | (refine aa_.call (bX_ _ _) ?_)
      | (refine aa_.q (bX_ _ _) ?_)
      | ((first | (apply b3_; assumption) | (apply b2_; assumption) | (apply cD_; assumption) | (apply cC_; assumption)); intro hb; try simp only [hb])
      | ((first | (apply a1_; assumption) | (apply a3_; assumption) | (apply bj_; assumption) | (apply bi_; assumption)); intro hb; try simp only [hb])
      | ((first | apply a4_ | apply bd_ | apply aC_ | apply aJ_) <;> intro hb <;> (try simp only [hb]) <;> (first | have hp := bK_ hb | have hp := bE_ hb | have hp := bG_ hb | have hp := bJ_ hb | skip)))
    ·skip
     simp (disch := omega) only [t0, k3, hlt, go_sem, reduceEqDiff, reduceCtorEq, ↓reduceIte]
     repeat' (first
      | exact al_ _ _
      | (refine ah_ ?_; rw [hS0, hS]; first | (simp only [*, Bool.and_true, Bool.true_and, Bool.and_false, Bool.false_and, Bool.or_true, Bool.true_or, Bool.or_false, Bool.false_or, Bool.not_true, Bool.not_false, decide_true, decide_false, Bool.and_self, Bool.or_self]; done) | (simp [*]; done))
      | (refine ah_ ?_; rw [hS0, hS.1, cY_ _ _ (by omega)])
      | simp (disch := omega) only [t0, k3, go_sem, reduceEqDiff, Nat.reduceAdd, reduceLeDiff, reduceCtorEq, Int.reduceLT, Int.reduceLE, Int.reduceNeg, Int.reduceSub, Int.reduceAdd, Int.reduceToNat, ↓reduceIte]
      | (refine aa_.call (bc_ _ _) ?_)
      | (refine aa_.q (bc_ _ _) ?_)
      | (refine aa_.call (bX_ _ _) ?_)
      | (refine aa_.q (bX_ _ _) ?_)
      | ((first | (apply b3_; assumption) | (apply b2_; assumption) | (apply cD_; assumption) | (apply cC_; assumption)); intro hb; try simp only [hb])
      | ((first | (apply a1_; assumption) | (apply a3_; assumption) | (apply bj_; assumption) | (apply bi_; assumption)); intro hb; try simp only [hb])
      | ((first | apply a4_ | apply bd_ | apply aC_ | apply aJ_) <;> intro hb <;> (try simp only [hb]) <;> (first | have hp := bK_ hb | have hp := bE_ hb | have hp := bG_ hb | have hp := bJ_ hb | skip))))
  | simp (disch := omega) only [go_sem, reduceEqDiff, reduceCtorEq, Int.reduceLE, ↓reduceIte]
  | (refine aa_.call (bc_ _ _) ?_)
  | (refine aa_.q (bc_ _ _) ?_)
  | ((first | (apply b3_; assumption) | (apply b2_; assumption) | (apply cD_; assumption) | (apply cC_; assumption)); intro hb; try simp only [hb])
  | ((first | (apply a1_; assumption) | (apply a3_; assumption) | (apply bj_; assumption) | (apply bi_; assumption)); intro hb; try simp only [hb])
  | ((first | apply a4_ | apply bd_ | apply aC_ | apply aJ_) <;> intro hb <;> (try simp only [hb]) <;> (first | have hp := bK_ hb | have hp := bE_ hb | have hp := bG_ hb | have hp := bJ_ hb | skip)))
def c33 : LC :=
 .q [.o [.f 2], .o [.m 3 0, .c1 4 45 3, .m 2 4], .ret]
def k6_ : LF := ⟨1, 5, c33, [.tmp 2]⟩
theorem lL_ : aF_ Try.prog Try.f33 k6_ := ax_
theorem cn_ (s : ByteArray) (hs : s.size ≤ 1048576) (h : List Row) : aa_ Try.prog 33 [.val (.string s)] h (.val (.bool (aN_ s))) := by
 refine as_ mixed Try.func33 lL_ rfl rfl ?_ h
 simp (disch := omega) only [k6_, c33, go_sem, reduceCtorEq, ↓reduceIte]
 repeat' (first
  | exact al_ _ _
  | simp (disch := omega) only [go_sem, ↓reduceIte]
  | (refine aa_.call (dN_ _ hs _) ?_)
  | (refine aa_.q (dN_ _ hs _) ?_)
  | ((first | (apply a1_; assumption) | (apply a3_; assumption) | (apply bj_; assumption) | (apply bi_; assumption)); intro hb; try simp only [hb])
  | ((first | apply aC_ | apply aJ_) <;> intro hb <;> (try simp only [hb]) <;> (first | have hp := bK_ hb | have hp := bE_ hb | have hp := bG_ hb | have hp := bJ_ hb | skip)))
def c27 : LC :=
 .q [.o [.ki 4 0], .q [.o [.m 6 0, .ll 7 6, .ki 8 0], .block 0 (.loop (.q [.o [.bb 9 .lss false 8 7], .k 9 .skip (.exit 0), .block 1 (.q [.o [.m 10 8, .m 5 10], .o [.m 11 1, .m 12 0, .m 13 5, .ia 14 1 12 13, .ln 15 14,
 .bb 16 .eql false 11 15], .k 16 (.q [.o [.m 17 5, .m 4 17], .ret]) .skip]), .o [.bk 18 .add false 8 1, .m 8 18]]))], .o [.s 4 (.mov (.const (.int .i64 (-1))))], .ret]
def lm_ : LF := ⟨2, 19, c27, [.tmp 4]⟩
theorem md_ : aF_ Try.prog Try.f27 lm_ := ax_
def c34 : LC :=
 .q [.o [.ki 4 0], .q [.o [.ki 5 0], .block 0 (.loop (.q [.q [.o [.m 6 5, .m 7 0, .ll 8 7, .bb 9 .lss false 6 8], .k 9 .skip (.exit 0)], .block 1 (.q [.o [.m 12 0, .m 13 5, .ia 14 1 12 13, .ln 15 14, .m 16 1, .bb 17 .eql
 false 15 16], .k 17 (.q [.o [.m 18 5, .m 4 18], .ret]) .skip]), .o [.m 10 5, .bk 11 .add false 10 1, .m 5 11]]))], .o [.s 4 (.mov (.const (.int .i64 (-1))))], .ret]
def lg_ : LF := ⟨2, 19, c34, [.tmp 4]⟩
theorem lS_ : aF_ Try.prog Try.f34 lg_ := ax_
def aZ_ (xs : List ByteArray) (v : ByteArray) : Int := a0_ (fun x => decide (v = x)) xs 0
theorem d6_ (xs : List ByteArray) (v : ByteArray) (hx : xs.length ≤ 1048576) (h : List Row) : aa_ Try.prog 27 [.list 0 1 (xs.map aA_), .val (.string v)] h (.val (.int .i64 (aZ_ xs v))) := by
 refine as_ mixed Try.func27 md_ rfl rfl ?_ h
 simp (disch := omega) only [lm_, c27, go_sem, reduceCtorEq, Int.reduceNeg, ↓reduceIte]
 refine bb_ (fun n t h => ∃ k : Nat, t 0 = .list 0 1 (xs.map aA_) ∧ t 1 = .val (.string v) ∧ t 7 = .val (.int .i64 xs.length) ∧ t 8 = .val (.int .i64 k) ∧ n = xs.length - k ∧ k ≤ xs.length ∧ (aZ_ xs v = a0_ (fun x => decide (v = x)) (xs.drop k) k)) (xs.length) ?_ ?_
 ·exact ⟨0, rfl, rfl, rfl, rfl, rfl, Nat.zero_le _, rfl⟩
 ·rintro J hJ n t h ⟨k, t0, t1, t7, k8, rfl, hk, hS⟩
  by_cases hlt : k < xs.length
  ·skip
   rw [dL_ _ xs k hlt] at hS
   simp (disch := omega) only [t0, t1, t7, k8, hlt, aA_, go_sem, reduceEqDiff, reduceCtorEq, Int.reduceNeg, ↓reduceIte]
   repeat' (first
    | exact al_ _ _
    | exact ⟨xs.length - (k + 1), by omega, hJ _ _ _ ⟨k + 1, by simp [upd, t0], by simp [upd, t1], by simp [upd, t7], by simp [upd], rfl, by omega, by rw [hS]; simp [*]⟩⟩
    | (refine aQ_ ?_; rw [hS]; simp [*]; done)
    | (refine aQ_ ?_; rw [hS, b5_ _ _ _ (by omega)])
    | simp (disch := omega) only [k8, go_sem, reduceEqDiff, Int.reduceNeg, ↓reduceIte]
    | ((first | (apply a1_; assumption) | (apply a3_; assumption) | (apply bj_; assumption) | (apply bi_; assumption)); intro hb; try simp only [hb])
    | ((first | apply aC_ | apply aJ_) <;> intro hb <;> (try simp only [hb]) <;> (first | have hp := bK_ hb | have hp := bE_ hb | have hp := bG_ hb | have hp := bJ_ hb | skip)))
  ·skip
   simp (disch := omega) only [t7, k8, hlt, go_sem, Int.reduceNeg, ↓reduceIte]
   repeat' (first
    | exact al_ _ _
    | (refine aQ_ ?_; rw [hS]; simp [*]; done)
    | (refine aQ_ ?_; rw [hS, b5_ _ _ _ (by omega)])
    | simp (disch := omega) only [t0, t1, t7, k8, go_sem, reduceEqDiff, Nat.reduceAdd, reduceLeDiff, reduceCtorEq, Int.reduceLT, Int.reduceLE, Int.reduceNeg, Int.reduceSub, Int.reduceAdd, Int.reduceToNat, ↓reduceIte]
    | ((first | (apply a1_; assumption) | (apply a3_; assumption) | (apply bj_; assumption) | (apply bi_; assumption)); intro hb; try simp only [hb])
    | ((first | apply aC_ | apply aJ_) <;> intro hb <;> (try simp only [hb]) <;> (first | have hp := bK_ hb | have hp := bE_ hb | have hp := bG_ hb | have hp := bJ_ hb | skip)))
theorem cI_ (xs : List ByteArray) (v : ByteArray) (hx : xs.length ≤ 1048576) (h : List Row) : aa_ Try.prog 34 [.list 0 1 (xs.map aA_), .val (.string v)] h (.val (.int .i64 (aZ_ xs v))) := by
 refine as_ mixed Try.func34 lS_ rfl rfl ?_ h
 simp (disch := omega) only [lg_, c34, go_sem, Int.reduceNeg]
 refine bb_ (fun n t h => ∃ k : Nat, t 0 = .list 0 1 (xs.map aA_) ∧ t 1 = .val (.string v) ∧ t 5 = .val (.int .i64 k) ∧ n = xs.length - k ∧ k ≤ xs.length ∧ (aZ_ xs v = a0_ (fun x => decide (v = x)) (xs.drop k) k)) (xs.length) ?_ ?_
 ·exact ⟨0, rfl, rfl, rfl, rfl, Nat.zero_le _, rfl⟩
 ·rintro J hJ n t h ⟨k, t0, t1, k5, rfl, hk, hS⟩
  by_cases hlt : k < xs.length
  ·skip
   rw [dL_ _ xs k hlt] at hS
   have hsym : (xs[k] = v) = (v = xs[k]) := propext ⟨Eq.symm, Eq.symm⟩
   simp (disch := omega) only [t0, t1, k5, hlt, aA_, go_sem, reduceEqDiff, reduceCtorEq, Int.reduceNeg, ↓reduceIte]
   repeat' (first
    | exact al_ _ _
    | exact ⟨xs.length - (k + 1), by omega, hJ _ _ _ ⟨k + 1, by simp [upd, t0], by simp [upd, t1], by simp [upd], rfl, by omega, by rw [hS]; first | (simp [*]; done) | (simp_all; done)⟩⟩
    | (refine aQ_ ?_; rw [hS]; simp [*]; done)
    | (refine aQ_ ?_; rw [hS]; simp_all; done)
    | (refine aQ_ ?_; rw [hS, b5_ _ _ _ (by omega)])
    | simp (disch := omega) only [k5, go_sem, reduceEqDiff, Int.reduceNeg, ↓reduceIte]
    | ((first | (apply a1_; assumption) | (apply a3_; assumption) | (apply bj_; assumption) | (apply bi_; assumption)); intro hb; try simp only [hb])
    | ((first | apply aC_ | apply aJ_) <;> intro hb <;> (try simp only [hb]) <;> (first | have hp := bK_ hb | have hp := bE_ hb | have hp := bG_ hb | have hp := bJ_ hb | skip)))
  ·skip
   simp (disch := omega) only [t0, k5, hlt, go_sem, reduceEqDiff, reduceCtorEq, Int.reduceNeg, ↓reduceIte]
   repeat' (first
    | exact al_ _ _
    | (refine aQ_ ?_; rw [hS]; simp [*]; done)
    | (refine aQ_ ?_; rw [hS]; simp_all; done)
    | (refine aQ_ ?_; rw [hS, b5_ _ _ _ (by omega)])
    | simp (disch := omega) only [t0, t1, k5, go_sem, reduceEqDiff, Nat.reduceAdd, reduceLeDiff, reduceCtorEq, Int.reduceLT, Int.reduceLE, Int.reduceNeg, Int.reduceSub, Int.reduceAdd, Int.reduceToNat, ↓reduceIte]
    | ((first | (apply a1_; assumption) | (apply a3_; assumption) | (apply bj_; assumption) | (apply bi_; assumption)); intro hb; try simp only [hb])
    | ((first | apply aC_ | apply aJ_) <;> intro hb <;> (try simp only [hb]) <;> (first | have hp := bK_ hb | have hp := bE_ hb | have hp := bG_ hb | have hp := bJ_ hb | skip)))
end Go.Proofs.Ytkddmakjmjmokaa
