/-
 Contracts of functions. Conditions: as each theorem says.
-/
import Derived.Test.YthahmhkbcdpkjabGreatDoorFnO
import Derived.Test.YthahmhkbcdpkjabGreatDoorAwC
import Derived.Test.YthahmhkbcdpkjabGreatDoorPlNum
import Derived.Test.YthahmhkbcdpkjabGreatDoorPlKey
namespace Go.Proofs.YthahmhkbcdpkjabGreatDoor
open Tryz (prog)
open Nat (reduceEqDiff reduceLeDiff)
open List
open Go.AW
set_option linter.unusedVariables false
set_option linter.unusedSimpArgs false
set_option maxRecDepth 4000
abbrev bs (s : ByteArray) : List UInt8 := s.data.toList
abbrev bss (xs : List ByteArray) : List (List UInt8) := xs.map fun s => s.data.toList
theorem eN_ (s : ByteArray) : txt s.data.toList = s := (iF_ s).symm
theorem c1_ (s : ByteArray) : s.data.toList.length = s.size := by rw [Array.length_toList]; rfl
theorem qH_ (a b : ByteArray) : (a.data.toList = b.data.toList) = (a = b) := by
 apply propext; constructor
 ·intro h; rw [← eN_ a, ← eN_ b, h]
 ·intro h; rw [h]
theorem cV_ (s : ByteArray) (hs : s.size ≤ 1048576) (h : List Row) : aa_ prog 116 [.val (.string s)] h (.val (.bool (b2_ s.data.toList))) := by
 have := ka_ s.data.toList (by rw [c1_]; omega) h
 rwa [eN_] at this
theorem dw_ (s : ByteArray) (hs : s.size ≤ 1048576) (h : List Row) : aa_ prog 118 [.val (.string s)] h (.val (.int .i64 (bJ_ s.data.toList))) := by
 have := iA_ s.data.toList (by rw [c1_]; omega) h
 rwa [eN_] at this
def eqS (s t : ByteArray) : Bool := decide (s = t)
def pY_ (xs ys : List ByteArray) : Bool := decide (xs.length ≤ ys.length) && wo_ eqS xs (ys.take xs.length)
def dk_ (b : Int) : Bool := decide (97 ≤ b) && decide (b ≤ 122) || decide (65 ≤ b) && decide (b ≤ 90)
def e4_ (b : Int) : Bool := decide (48 ≤ b) && decide (b ≤ 57)
def dP_ (s : ByteArray) : Bool := decide (1 ≤ (s.size : Int)) && decide ((s.size : Int) ≤ 24)
def vd_ : LC :=
 .q [.o [.f 2], .o [.m 3 0, .s 4 (.bin .leq false (.const (.int .u8 97)) (.tmp 3)), .m 5 4, .gm 6 5 true 0, .g 7 5 true (.bin .leq false (.tmp 6) (.const (.int .u8 122))), .pf 8 5 7, .m 9 8, .gm 10 9 false 0, .g 11 9
 false (.bin .leq false (.const (.int .u8 65)) (.tmp 10)), .gm 12 9 false 11, .gm 13 12 true 0, .g 14 12 true (.bin .leq false (.tmp 13) (.const (.int .u8 90))), .g 15 9 false (.pick (.tmp 12) (.tmp 14) (.const (.bool
 false))), .pt 16 9 15, .m 2 16], .ret]
def sE_ : LF := ⟨1, 17, vd_, [.tmp 2]⟩
theorem uf_ : as_ prog Tryz.f112 sE_ := al_
theorem dO_ (b : Int)  (h : List Row) : aa_ prog 112 [.val (.int .u8 b)] h (.val (.bool (dk_ b))) := by
 refine ah_ mixed Tryz.func112 uf_ rfl rfl ?_ h
 simp (disch := omega) only [sE_, vd_, go_sem, reduceCtorEq, ↓reduceIte]
 repeat' (first
  | exact ad_ _ _
  | (refine ag_ ?_; first | rfl | (simp only [dk_, *, Bool.true_and, Bool.and_false, Bool.false_and, Bool.true_or, Bool.false_or, decide_true, decide_false, Bool.and_self, Bool.or_self]; done) | (simp [dk_, *]; done))
  | simp (disch := omega) only [go_sem, reduceEqDiff, reduceCtorEq, ↓reduceIte]
  | ((first | (apply bf_; assumption) | (apply bh_; assumption) | (apply bs_; assumption) | (apply bt_; assumption)); intro hb; try simp only [hb])
  | ((first | (apply aF_; assumption) | (apply aE_; assumption) | (apply aP_; assumption) | (apply aO_; assumption)); intro hb; try simp only [hb])
  | ((first | apply aH_ | apply aM_ | apply an_ | apply ap_) <;> intro hb <;> (try simp only [hb]) <;> (first | have hp := a2_ hb | have hp := a4_ hb | have hp := a5_ hb | have hp := a3_ hb | skip)))
def u2_ : LC :=
 .q [.o [.f 2], .o [.m 3 0, .s 4 (.bin .geq false (.tmp 3) (.const (.int .u8 97))), .m 5 4, .gm 6 5 true 0, .g 7 5 true (.bin .leq false (.tmp 6) (.const (.int .u8 122))), .pf 8 5 7, .m 9 8, .gm 10 9 false 0, .g 11 9
 false (.bin .geq false (.tmp 10) (.const (.int .u8 65))), .gm 12 9 false 11, .gm 13 12 true 0, .g 14 12 true (.bin .leq false (.tmp 13) (.const (.int .u8 90))), .g 15 9 false (.pick (.tmp 12) (.tmp 14) (.const (.bool
 false))), .pt 16 9 15, .m 2 16], .ret]
def sY_ : LF := ⟨1, 17, u2_, [.tmp 2]⟩
theorem va_ : as_ prog Tryz.f107 sY_ := al_
theorem ck_ (b : Int)  (h : List Row) : aa_ prog 107 [.val (.int .u8 b)] h (.val (.bool (dk_ b))) := by
 refine ah_ mixed Tryz.func107 va_ rfl rfl ?_ h
 simp (disch := omega) only [sY_, u2_, go_sem, reduceCtorEq, ↓reduceIte]
 repeat' (first
  | exact ad_ _ _
  | (refine ag_ ?_; first | rfl | (simp only [dk_, *, Bool.true_and, Bool.and_false, Bool.false_and, Bool.true_or, Bool.false_or, decide_true, decide_false, Bool.and_self, Bool.or_self]; done) | (simp [dk_, *]; done))
  | simp (disch := omega) only [go_sem, reduceEqDiff, reduceCtorEq, ↓reduceIte]
  | ((first | (apply bf_; assumption) | (apply bh_; assumption) | (apply bs_; assumption) | (apply bt_; assumption)); intro hb; try simp only [hb])
  | ((first | (apply aF_; assumption) | (apply aE_; assumption) | (apply aP_; assumption) | (apply aO_; assumption)); intro hb; try simp only [hb])
  | ((first | apply aH_ | apply aM_ | apply an_ | apply ap_) <;> intro hb <;> (try simp only [hb]) <;> (first | have hp := a2_ hb | have hp := a4_ hb | have hp := a5_ hb | have hp := a3_ hb | skip)))
def vP_ : LC :=
 .q [.o [.f 2], .o [.m 3 0, .s 4 (.bin .leq false (.const (.int .u8 48)) (.tmp 3)), .m 5 4, .gm 6 5 true 0, .g 7 5 true (.bin .leq false (.tmp 6) (.const (.int .u8 57))), .pf 8 5 7, .m 2 8], .ret]
def sV_ : LF := ⟨1, 9, vP_, [.tmp 2]⟩
theorem uV_ : as_ prog Tryz.f113 sV_ := al_
theorem d2_ (b : Int)  (h : List Row) : aa_ prog 113 [.val (.int .u8 b)] h (.val (.bool (e4_ b))) := by
 refine ah_ mixed Tryz.func113 uV_ rfl rfl ?_ h
 simp (disch := omega) only [sV_, vP_, go_sem, reduceCtorEq, ↓reduceIte]
 repeat' (first
  | exact ad_ _ _
  | (refine ag_ ?_; first | rfl | (simp only [e4_, *, Bool.true_and, Bool.false_and, decide_true, decide_false]; done) | (simp [e4_, *]; done))
  | simp (disch := omega) only [go_sem, reduceEqDiff, reduceCtorEq, ↓reduceIte]
  | ((first | (apply bf_; assumption) | (apply bh_; assumption) | (apply bs_; assumption) | (apply bt_; assumption)); intro hb; try simp only [hb])
  | ((first | (apply aF_; assumption) | (apply aE_; assumption) | (apply aP_; assumption) | (apply aO_; assumption)); intro hb; try simp only [hb])
  | ((first | apply aH_ | apply aM_ | apply an_ | apply ap_) <;> intro hb <;> (try simp only [hb]) <;> (first | have hp := a2_ hb | have hp := a4_ hb | have hp := a5_ hb | have hp := a3_ hb | skip)))
theorem dr_ (b : Int)  (h : List Row) : aa_ prog 108 [.val (.int .u8 b)] h (.val (.bool (e4_ b))) := by
 refine ah_ mixed Tryz.func108 qJ_ rfl rfl ?_ h
 simp (disch := omega) only [oQ_, q8_, go_sem, reduceCtorEq, ↓reduceIte]
 repeat' (first
  | exact ad_ _ _
  | (refine ag_ ?_; first | rfl | (simp only [e4_, *, Bool.true_and, Bool.false_and, decide_true, decide_false]; done) | (simp [e4_, *]; done))
  | simp (disch := omega) only [go_sem, reduceEqDiff, reduceCtorEq, ↓reduceIte]
  | ((first | (apply bf_; assumption) | (apply bh_; assumption) | (apply bs_; assumption) | (apply bt_; assumption)); intro hb; try simp only [hb])
  | ((first | (apply aF_; assumption) | (apply aE_; assumption) | (apply aP_; assumption) | (apply aO_; assumption)); intro hb; try simp only [hb])
  | ((first | apply aH_ | apply aM_ | apply an_ | apply ap_) <;> intro hb <;> (try simp only [hb]) <;> (first | have hp := a2_ hb | have hp := a4_ hb | have hp := a5_ hb | have hp := a3_ hb | skip)))
def uy_ : LC :=
 .q [.o [.f 2], .o [.m 3 0, .s 4 (.lenStr (.tmp 3)), .bk 5 .geq false 4 1, .m 6 5, .gm 7 6 true 0, .g 8 6 true (.lenStr (.tmp 7)), .g 9 6 true (.bin .leq false (.tmp 8) (.const (.int .i64 24))), .pf 10 6 9, .m 2 10],
 .ret]
def sr_ : LF := ⟨1, 11, uy_, [.tmp 2]⟩
theorem uF_ : as_ prog Tryz.f115 sr_ := al_
theorem ix_ (s : ByteArray)  (h : List Row) : aa_ prog 115 [.val (.string s)] h (.val (.bool (dP_ s))) := by
 refine ah_ mixed Tryz.func115 uF_ rfl rfl ?_ h
 simp (disch := omega) only [sr_, uy_, go_sem, reduceCtorEq, ↓reduceIte]
 repeat' (first
  | exact ad_ _ _
  | (refine ag_ ?_; first | rfl | (simp only [dP_, *, Bool.true_and, Bool.false_and, decide_true, decide_false]; done) | (simp [dP_, *]; done))
  | simp (disch := omega) only [go_sem, reduceEqDiff, reduceCtorEq, ↓reduceIte]
  | ((first | (apply bf_; assumption) | (apply bh_; assumption) | (apply bs_; assumption) | (apply bt_; assumption)); intro hb; try simp only [hb])
  | ((first | (apply aF_; assumption) | (apply aE_; assumption) | (apply aP_; assumption) | (apply aO_; assumption)); intro hb; try simp only [hb])
  | ((first | apply aH_ | apply aM_ | apply an_ | apply ap_) <;> intro hb <;> (try simp only [hb]) <;> (first | have hp := a2_ hb | have hp := a4_ hb | have hp := a5_ hb | have hp := a3_ hb | skip)))
def vG_ : LC :=
 .q [.o [.f 2], .o [.m 3 0, .s 4 (.lenStr (.tmp 3)), .bk 5 .geq false 4 1, .m 6 5, .gm 7 6 true 0, .g 8 6 true (.lenStr (.tmp 7)), .g 9 6 true (.bin .leq false (.tmp 8) (.const (.int .i64 24))), .pf 10 6 9, .m 2 10],
 .ret]
def sx_ : LF := ⟨1, 11, vG_, [.tmp 2]⟩
theorem t9_ : as_ prog Tryz.f109 sx_ := al_
theorem eu_ (s : ByteArray)  (h : List Row) : aa_ prog 109 [.val (.string s)] h (.val (.bool (dP_ s))) := by
 refine ah_ mixed Tryz.func109 t9_ rfl rfl ?_ h
 simp (disch := omega) only [sx_, vG_, go_sem, reduceCtorEq, ↓reduceIte]
 repeat' (first
  | exact ad_ _ _
  | (refine ag_ ?_; first | rfl | (simp only [dP_, *, Bool.true_and, Bool.false_and, decide_true, decide_false]; done) | (simp [dP_, *]; done))
  | simp (disch := omega) only [go_sem, reduceEqDiff, reduceCtorEq, ↓reduceIte]
  | ((first | (apply bf_; assumption) | (apply bh_; assumption) | (apply bs_; assumption) | (apply bt_; assumption)); intro hb; try simp only [hb])
  | ((first | (apply aF_; assumption) | (apply aE_; assumption) | (apply aP_; assumption) | (apply aO_; assumption)); intro hb; try simp only [hb])
  | ((first | apply aH_ | apply aM_ | apply an_ | apply ap_) <;> intro hb <;> (try simp only [hb]) <;> (first | have hp := a2_ hb | have hp := a4_ hb | have hp := a5_ hb | have hp := a3_ hb | skip)))
def c96 : LC :=
 .q [.o [.ki 4 0], .q [.o [.m 6 0, .ll 7 6, .ki 8 0], .block 0 (.loop (.q [.o [.bb 9 .lss false 8 7], .k 9 .skip (.exit 0), .block 1 (.q [.o [.m 10 8, .m 5 10], .o [.m 11 1, .m 12 0, .m 13 5, .ia 14 1 12 13, .ln 15 14, .s
 16 (.callv (.tmp 11) [.tmp 15])], .k 16 (.q [.o [.m 17 5, .m 4 17], .ret]) .skip]), .o [.bk 18 .add false 8 1, .m 8 18]]))], .o [.s 4 (.mov (.const (.int .i64 (-1))))], .ret]
def so_ : LF := ⟨2, 19, c96, [.tmp 4]⟩
theorem s6_ : as_ prog Tryz.f96 so_ := al_
theorem f4_ (xs : List ByteArray) (p : ByteArray → Bool) (g : Nat) (hx : xs.length ≤ 1048576) (hc : cc_ prog g = true) (hp : ∀ x ∈ xs, ∀ h, aa_ prog g [.val (.string x)] h (.val (.bool (p x)))) (h : List Row) :
 aa_ prog 96 [.list 0 1 (xs.map ax_), .fn g [] []] h (.val (.int .i64 (cl_ p xs 0))) := by
 refine ah_ mixed Tryz.func96 s6_ rfl rfl ?_ h
 simp (disch := omega) only [so_, c96, go_sem, reduceCtorEq, Int.reduceNeg, ↓reduceIte]
 refine aJ_ (fun n t h => ∃ k : Nat, t 0 = .list 0 1 (xs.map ax_) ∧ t 1 = .fn g [] [] ∧ t 6 = .list 0 1 (xs.map ax_) ∧ t 7 = .val (.int .i64 xs.length) ∧ t 8 = .val (.int .i64 k) ∧ n = xs.length - k ∧ k ≤ xs.length ∧ (cl_ p xs 0 = cl_ p (xs.drop k) k)) (xs.length) ?_ ?_
 ·exact ⟨0, rfl, rfl, rfl, rfl, rfl, rfl, Nat.zero_le _, rfl⟩
 ·rintro J hJ n t h ⟨k, t0, t1, t6, t7, k8, rfl, hk, hS⟩
  by_cases hlt : k < xs.length
  ·skip
   rw [gW_ p xs k hlt] at hS
   simp (disch := omega) only [t0, t1, t7, k8, hlt, hc, ax_, go_sem, reduceEqDiff, reduceCtorEq, Int.reduceNeg, ↓reduceIte]
   repeat' (first
    | exact ad_ _ _
    | exact ⟨xs.length - (k + 1), by omega, hJ _ _ _ ⟨k + 1, by simp [upd, t0], by simp [upd, t1], by simp [upd, t6], by simp [upd, t7], by simp [upd], rfl, by omega, by rw [hS]; simp [*]⟩⟩
    | (refine au_ ?_; rw [hS]; simp [*]; done)
    | (refine au_ ?_; rw [hS, dX_ _ _ _ (by omega)])
    | simp (disch := omega) only [k8, go_sem, reduceEqDiff, Int.reduceNeg, ↓reduceIte]
    | (refine aa_.call (hp xs[k] (getElem_mem hlt) _) ?_)
    | (refine aa_.q (hp xs[k] (getElem_mem hlt) _) ?_)
    | ((first | (apply aF_; assumption) | (apply aE_; assumption) | (apply aP_; assumption) | (apply aO_; assumption)); intro hb; try simp only [hb])
    | ((first | apply an_ | apply ap_) <;> intro hb <;> (try simp only [hb]) <;> (first | have hp := a2_ hb | have hp := a4_ hb | have hp := a5_ hb | have hp := a3_ hb | skip)))
  ·skip
   simp (disch := omega) only [t7, k8, hlt, go_sem, Int.reduceNeg, ↓reduceIte]
   repeat' (first
    | exact ad_ _ _
    | (refine au_ ?_; rw [hS]; simp [*]; done)
    | (refine au_ ?_; rw [hS, dX_ _ _ _ (by omega)])
    | simp (disch := omega) only [t0, t1, t6, t7, k8, go_sem, reduceEqDiff, Nat.reduceAdd, reduceLeDiff, reduceCtorEq, Int.reduceLT, Int.reduceLE, Int.reduceNeg, Int.reduceSub, Int.reduceAdd, Int.reduceToNat, ↓reduceIte]
    | (refine aa_.call (hp xs[k] (getElem_mem hlt) _) ?_)
    | (refine aa_.q (hp xs[k] (getElem_mem hlt) _) ?_)
    | ((first | (apply aF_; assumption) | (apply aE_; assumption) | (apply aP_; assumption) | (apply aO_; assumption)); intro hb; try simp only [hb])
    | ((first | apply an_ | apply ap_) <;> intro hb <;> (try simp only [hb]) <;> (first | have hp := a2_ hb | have hp := a4_ hb | have hp := a5_ hb | have hp := a3_ hb | skip)))
def c70 : LC :=
 .q [.o [.f 4], .o [.m 5 0, .m 6 1, .c2 7 96 5 6, .bk 8 .geq false 7 0, .m 4 8], .ret]
def rz_ : LF := ⟨2, 9, c70, [.tmp 4]⟩
theorem sQ_ : as_ prog Tryz.f70 rz_ := al_
theorem bO_ (xs : List ByteArray) (p : ByteArray → Bool) (g : Nat) (hx : xs.length ≤ 1048576) (hc : cc_ prog g = true) (hp : ∀ x ∈ xs, ∀ h, aa_ prog g [.val (.string x)] h (.val (.bool (p x)))) (h : List Row) :
 aa_ prog 70 [.list 0 1 (xs.map ax_), .fn g [] []] h (.val (.bool (xs.any p))) := by
 refine ah_ mixed Tryz.func70 sQ_ rfl rfl ?_ h
 simp (disch := omega) only [rz_, c70, go_sem, reduceEqDiff, reduceCtorEq, ↓reduceIte]
 refine aa_.call (f4_ xs p g hx hc hp _) ?_
 simp (disch := omega) only [go_sem, ↓reduceIte]
 exact ag_ (hx_ p xs)
def cK_ (xs : List ByteArray) : Bool := decide ((xs.length : Int) ≤ 4) && xs.all dP_
def vg_ : LC :=
 .q [.o [.f 2], .o [.m 3 0, .c1 4 115 3, .nt 5 4, .m 2 5], .ret]
def s2_ : LF := ⟨1, 6, vg_, [.tmp 2]⟩
theorem up_ : as_ prog Tryz.f114 s2_ := al_
theorem gb_ (s : ByteArray)  (h : List Row) : aa_ prog 114 [.val (.string s)] h (.val (.bool (!dP_ s))) := by
 refine ah_ mixed Tryz.func114 up_ rfl rfl ?_ h
 simp (disch := omega) only [s2_, vg_, go_sem, reduceCtorEq, ↓reduceIte]
 repeat' (first
  | exact ad_ _ _
  | simp (disch := omega) only [go_sem, ↓reduceIte]
  | (refine aa_.call (ix_ _ _) ?_)
  | (refine aa_.q (ix_ _ _) ?_)
  | ((first | (apply aF_; assumption) | (apply aE_; assumption) | (apply aP_; assumption) | (apply aO_; assumption)); intro hb; try simp only [hb])
  | ((first | apply an_ | apply ap_) <;> intro hb <;> (try simp only [hb]) <;> (first | have hp := a2_ hb | have hp := a4_ hb | have hp := a5_ hb | have hp := a3_ hb | skip)))
theorem tE_ {α : Type} (p : α → Bool) (xs : List α) : (!xs.any fun x => !p x) = xs.all p := by
 induction xs with
 | nil => rfl
 | cons x xs ih => simp only [any_cons, all_cons, Bool.not_or, Bool.not_not, ih]
def c99 : LC :=
 .q [.o [.f 2], .o [.m 3 0, .ll 4 3, .bk 5 .leq false 4 4, .m 6 5, .gm 7 6 true 0, .g 8 6 true (.call 70 [.tmp 7, .func 114]), .gu 9 6 true 8, .pf 10 6 9, .m 2 10], .ret]
def vK_ : LF := ⟨1, 11, c99, [.tmp 2]⟩
theorem wC_ : as_ prog Tryz.f99 vK_ := al_
theorem fA_ (xs : List ByteArray) (hx : xs.length ≤ 1048576) (h : List Row) : aa_ prog 99 [.list 0 1 (xs.map ax_)] h (.val (.bool (cK_ xs))) := by
 refine ah_ mixed Tryz.func99 wC_ rfl rfl ?_ h
 simp (disch := omega) only [vK_, c99, go_sem, reduceCtorEq, ↓reduceIte]
 repeat' (first
  | exact ad_ _ _
  | (refine ag_ ?_; simp only [tE_, cK_, *, Bool.true_and, Bool.false_and, decide_true, decide_false]; done)
  | (refine ag_ ?_; first | rfl | (simp only [cK_, *, Bool.and_true, Bool.true_and, Bool.and_false, Bool.false_and, Bool.or_true, Bool.true_or, Bool.or_false, Bool.false_or, Bool.not_true, Bool.not_false, decide_true, decide_false, Bool.and_self, Bool.or_self]; done) | (simp [cK_, *]; done))
  | simp (disch := omega) only [go_sem, reduceEqDiff, reduceCtorEq, ↓reduceIte]
  | (refine aa_.call (bO_ _ (fun s => !dP_ s) 114 hx (by kernel_rfl) (fun x _ h => gb_ x h) _) ?_)
  | (refine aa_.q (bO_ _ (fun s => !dP_ s) 114 hx (by kernel_rfl) (fun x _ h => gb_ x h) _) ?_)
  | ((first | (apply bf_; assumption) | (apply bh_; assumption) | (apply bs_; assumption) | (apply bt_; assumption)); intro hb; try simp only [hb])
  | ((first | (apply aF_; assumption) | (apply aE_; assumption) | (apply aP_; assumption) | (apply aO_; assumption)); intro hb; try simp only [hb])
  | ((first | apply aH_ | apply aM_ | apply an_ | apply ap_) <;> intro hb <;> (try simp only [hb]) <;> (first | have hp := a2_ hb | have hp := a4_ hb | have hp := a5_ hb | have hp := a3_ hb | skip)))
def c91 : LC :=
 .q [.o [.f 2], .q [.o [.m 4 0, .ll 5 4, .bk 6 .gtr false 5 4], .k 6 (.q [.o [.f 2], .ret]) .skip], .q [.o [.ki 3 0], .block 0 (.loop (.q [.q [.o [.m 7 3, .m 8 0, .ll 9 8, .bb 10 .lss false 7 9], .k 10 .skip (.exit 0)],
 .block 1 (.q [.o [.m 13 0, .m 14 3, .ia 15 1 13 14, .ln 16 15, .c1 17 109 16, .nt 18 17], .k 18 (.q [.o [.f 2], .ret]) .skip]), .o [.m 11 3, .bk 12 .add false 11 1, .m 3 12]]))], .o [.t 2], .ret]
def r1_ : LF := ⟨1, 19, c91, [.tmp 2]⟩
theorem xB_ : as_ prog Tryz.f91 r1_ := al_
theorem d0_ (xs : List ByteArray) (hx : xs.length ≤ 1048576) (h : List Row) : aa_ prog 91 [.list 0 1 (xs.map ax_)] h (.val (.bool (cK_ xs))) := by
 refine ah_ mixed Tryz.func91 xB_ rfl rfl ?_ h
 by_cases h4 : (xs.length : Int) ≤ 4
 ·have h4' : ((4 : Int) < xs.length) = False := by simp; omega
  have hS0 : cK_ xs = xs.all dP_ := by simp [cK_, h4]
  simp (disch := omega) only [r1_, c91, h4', go_sem, reduceCtorEq, ↓reduceIte]
  refine aJ_ (fun n t h => ∃ k : Nat, t 0 = .list 0 1 (xs.map ax_) ∧ t 3 = .val (.int .i64 k) ∧ n = xs.length - k ∧ k ≤ xs.length ∧ (xs.all dP_ = (xs.drop k).all dP_)) (xs.length) ?_ ?_
  ·exact ⟨0, rfl, rfl, rfl, Nat.zero_le _, rfl⟩
  ·rintro J hJ n t h ⟨k, t0, k3, rfl, hk, hS⟩
   by_cases hlt : k < xs.length
   ·skip
    rw [rR_ dP_ xs k hlt] at hS
    simp (disch := omega) only [t0, k3, hlt, ax_, go_sem, reduceEqDiff, reduceCtorEq, ↓reduceIte]
    repeat' (first
     | exact ad_ _ _
     | exact ⟨xs.length - (k + 1), by omega, hJ _ _ _ ⟨k + 1, by simp [upd, t0], by simp [upd], rfl, by omega, by rw [hS]; first | (simp only [*, Bool.true_and]; done) | simp [*]⟩⟩
     | (refine ag_ ?_; rw [hS0, hS]; first | (simp only [*, Bool.false_and]; done) | (simp [*]; done))
     | (refine ag_ ?_; rw [hS0, hS, oJ_ _ _ _ (by omega)])
     | simp (disch := omega) only [k3, go_sem, reduceEqDiff, ↓reduceIte]
     | (refine aa_.call (eu_ _ _) ?_)
     | (refine aa_.q (eu_ _ _) ?_)
     | ((first | (apply aF_; assumption) | (apply aE_; assumption) | (apply aP_; assumption) | (apply aO_; assumption)); intro hb; try simp only [hb])
     | ((first | apply an_ | apply ap_) <;> intro hb <;> (try simp only [hb]) <;> (first | have hp := a2_ hb | have hp := a4_ hb | have hp := a5_ hb | have hp := a3_ hb | skip)))
   ·skip
    simp (disch := omega) only [t0, k3, hlt, go_sem, reduceEqDiff, reduceCtorEq, ↓reduceIte]
    repeat' (first
     | exact ad_ _ _
     | (refine ag_ ?_; rw [hS0, hS]; first | (simp only [*, Bool.and_true, Bool.true_and, Bool.and_false, Bool.false_and, Bool.or_true, Bool.true_or, Bool.or_false, Bool.false_or, Bool.not_true, Bool.not_false, decide_true, decide_false, Bool.and_self, Bool.or_self]; done) | (simp [*]; done))
     | (refine ag_ ?_; rw [hS0, hS, oJ_ _ _ _ (by omega)])
     | simp (disch := omega) only [t0, k3, go_sem, reduceEqDiff, Nat.reduceAdd, reduceLeDiff, reduceCtorEq, Int.reduceLT, Int.reduceLE, Int.reduceNeg, Int.reduceSub, Int.reduceAdd, Int.reduceToNat, ↓reduceIte]
     | (refine aa_.call (eu_ _ _) ?_)
     | (refine aa_.q (eu_ _ _) ?_)
     | ((first | (apply aF_; assumption) | (apply aE_; assumption) | (apply aP_; assumption) | (apply aO_; assumption)); intro hb; try simp only [hb])
     | ((first | apply an_ | apply ap_) <;> intro hb <;> (try simp only [hb]) <;> (first | have hp := a2_ hb | have hp := a4_ hb | have hp := a5_ hb | have hp := a3_ hb | skip)))
 ·have h4' : ((4 : Int) < xs.length) = True := by simp; omega
  simp (disch := omega) only [r1_, c91, h4', go_sem, reduceCtorEq, ↓reduceIte]
  exact ag_ (by simp [cK_, h4])
def c60 : LC :=
 .q [.o [.f 2], .o [.m 3 0, .c1 4 91 3, .m 2 4], .ret]
def ua_ : LF := ⟨1, 5, c60, [.tmp 2]⟩
theorem xV_ : as_ prog Tryz.f60 ua_ := al_
theorem eC_ (xs : List ByteArray) (hx : xs.length ≤ 1048576) (h : List Row) : aa_ prog 60 [.list 0 1 (xs.map ax_)] h (.val (.bool (cK_ xs))) := by
 refine ah_ mixed Tryz.func60 xV_ rfl rfl ?_ h
 simp (disch := omega) only [ua_, c60, go_sem, reduceCtorEq, ↓reduceIte]
 repeat' (first
  | exact ad_ _ _
  | simp (disch := omega) only [go_sem, ↓reduceIte]
  | (refine aa_.call (d0_ _ hx _) ?_)
  | (refine aa_.q (d0_ _ hx _) ?_)
  | ((first | (apply aF_; assumption) | (apply aE_; assumption) | (apply aP_; assumption) | (apply aO_; assumption)); intro hb; try simp only [hb])
  | ((first | apply an_ | apply ap_) <;> intro hb <;> (try simp only [hb]) <;> (first | have hp := a2_ hb | have hp := a4_ hb | have hp := a5_ hb | have hp := a3_ hb | skip)))
def c3_ : List Int → Nat → Bool
 | [], _ => true
 | b :: bs, k => (dk_ b || (decide (k = 0) && decide (b = 37)) || (!decide (k = 0) && e4_ b)) && c3_ bs (k + 1)
def cJ_ (s : ByteArray) : Bool := decide (1 ≤ (s.size : Int)) && decide ((s.size : Int) ≤ 8) && c3_ (dj_ s) 0
theorem eP_ (bs : List Int) (k : Nat) (h : k < bs.length) : c3_ (bs.drop k) k = ((dk_ bs[k] || (decide (k = 0) && decide (bs[k] = 37)) || (!decide (k = 0) && e4_ bs[k])) && c3_ (bs.drop (k + 1)) (k + 1)) := by
 rw [drop_eq_getElem_cons h]; rfl
theorem ff_ (bs : List Int) (k : Nat) (h : bs.length ≤ k) : c3_ (bs.drop k) k = true := by
 rw [drop_eq_nil_of_le h]; rfl
def c98 : LC :=
 .q [.o [.f 2], .q [.o [.ki 3 0], .block 0 (.loop (.q [.q [.o [.m 5 3, .m 6 0, .s 7 (.lenStr (.tmp 6)), .bb 8 .lss false 5 7], .k 8 .skip (.exit 0)], .block 1 (.q [.o [.m 11 0, .m 12 3, .s 13 (.indexStr (.tmp 11) (.tmp
 12)), .c1 14 112 13, .m 15 14, .gm 16 15 false 3, .g 17 15 false (.bin .eql false (.tmp 16) (.const (.int .i64 0))), .gm 18 15 false 17, .gm 19 18 true 0, .gm 20 18 true 3, .g 21 18 true (.indexStr (.tmp 19) (.tmp 20)),
 .g 22 18 true (.bin .eql false (.tmp 21) (.const (.int .u8 37))), .g 23 15 false (.pick (.tmp 18) (.tmp 22) (.const (.bool false))), .pt 24 15 23, .m 4 24], .o [.m 25 4, .nt 26 25, .m 27 26, .gm 28 27 true 3, .g 29 27
 true (.bin .eql false (.tmp 28) (.const (.int .i64 0))), .gm 30 27 true 29, .gm 31 30 false 0, .gm 32 30 false 3, .g 33 30 false (.indexStr (.tmp 31) (.tmp 32)), .gc 34 30 false 113 33, .gu 35 30 false 34, .g 36 27 true
 (.pick (.tmp 30) (.const (.bool true)) (.tmp 35)), .pf 37 27 36], .k 37 (.q [.o [.f 2], .ret]) .skip]), .o [.m 9 3, .bk 10 .add false 9 1, .m 3 10]]))], .o [.m 38 0, .s 39 (.lenStr (.tmp 38)), .bk 40 .geq false 39 1, .m
 41 40, .gm 42 41 true 0, .g 43 41 true (.lenStr (.tmp 42)), .g 44 41 true (.bin .leq false (.tmp 43) (.const (.int .i64 8))), .pf 45 41 44, .m 2 45], .ret]
def vT_ : LF := ⟨1, 46, c98, [.tmp 2]⟩
theorem xM_ : as_ prog Tryz.f98 vT_ := al_
theorem hF_ (s : ByteArray) (hs : s.size ≤ 1048576) (h : List Row) : aa_ prog 98 [.val (.string s)] h (.val (.bool (cJ_ s))) := by
 refine ah_ mixed Tryz.func98 xM_ rfl rfl ?_ h
 have hl := cz_ s
 simp (disch := omega) only [vT_, c98, go_sem]
 refine aJ_ (fun n t h => ∃ k : Nat, t 0 = .val (.string s) ∧ t 3 = .val (.int .i64 k) ∧ n = s.size - k ∧ k ≤ s.size ∧ (c3_ (dj_ s) 0 = c3_ ((dj_ s).drop k) k)) (s.size) ?_ ?_
 ·exact ⟨0, rfl, rfl, rfl, Nat.zero_le _, rfl⟩
 ·rintro J hJ n t h ⟨k, t0, k3, rfl, hk, hS⟩
  by_cases hlt : k < s.size
  ·skip
   rw [eP_ (dj_ s) k (by omega)] at hS
   simp (disch := omega) only [t0, k3, hlt, go_sem, reduceEqDiff, reduceCtorEq, ↓reduceIte]
   repeat' (first
    | exact ad_ _ _
    | exact ⟨s.size - (k + 1), by omega, hJ _ _ _ ⟨k + 1, by simp [upd, t0], by simp [upd], rfl, by omega, by rw [hS]; first | (simp only [*, Bool.true_and, Bool.false_and, Bool.or_true, Bool.true_or, Bool.or_false, Bool.not_true, Bool.not_false, Bool.and_self, Bool.or_self]; done) | simp [*]⟩⟩
    | (refine ag_ ?_; simp only [cJ_]; rw [hS]; first | (simp only [*, Bool.and_false, Bool.false_and, Bool.not_true, Bool.not_false, Bool.or_self]; done) | (simp [*]; done))
    | (refine ag_ ?_; rw [ff_ _ _ (by omega)] at hS; simp only [cJ_]; rw [hS]; first | (simp only [*, Bool.and_true, Bool.true_and, Bool.and_false, Bool.false_and, Bool.or_true, Bool.true_or, Bool.or_false, Bool.false_or, Bool.not_true, Bool.not_false, decide_true, decide_false, Bool.and_self, Bool.or_self]; done) | (simp [*]; done))
    | simp (disch := omega) only [t0, k3, go_sem, reduceEqDiff, reduceCtorEq, ↓reduceIte]
    | (refine aa_.call (dO_ _ _) ?_)
    | (refine aa_.q (dO_ _ _) ?_)
    | (refine aa_.call (d2_ _ _) ?_)
    | (refine aa_.q (d2_ _ _) ?_)
    | ((first | (apply bf_; assumption) | (apply bh_; assumption) | (apply bs_; assumption) | (apply bt_; assumption)); intro hb; try simp only [hb])
    | ((first | (apply aF_; assumption) | (apply aE_; assumption) | (apply aP_; assumption) | (apply aO_; assumption)); intro hb; try simp only [hb])
    | ((first | apply aH_ | apply aM_ | apply an_ | apply ap_) <;> intro hb <;> (try simp only [hb]) <;> (first | have hp := a2_ hb | have hp := a4_ hb | have hp := a5_ hb | have hp := a3_ hb | skip)))
  ·skip
   simp (disch := omega) only [t0, k3, hlt, go_sem, reduceEqDiff, reduceCtorEq, ↓reduceIte]
   repeat' (first
    | exact ad_ _ _
    | (refine ag_ ?_; simp only [cJ_]; rw [hS]; first | (simp only [*, Bool.true_and, Bool.false_and, decide_true, decide_false]; done) | (simp [*]; done))
    | (refine ag_ ?_; rw [ff_ _ _ (by omega)] at hS; simp only [cJ_]; rw [hS]; first | (simp only [*, Bool.and_true, Bool.true_and, decide_true]; done) | (simp [*]; done))
    | simp (disch := omega) only [t0, go_sem, reduceEqDiff, reduceCtorEq, ↓reduceIte]
    | (refine aa_.call (dO_ _ _) ?_)
    | (refine aa_.q (dO_ _ _) ?_)
    | (refine aa_.call (d2_ _ _) ?_)
    | (refine aa_.q (d2_ _ _) ?_)
    | ((first | (apply bf_; assumption) | (apply bh_; assumption) | (apply bs_; assumption) | (apply bt_; assumption)); intro hb; try simp only [hb])
    | ((first | (apply aF_; assumption) | (apply aE_; assumption) | (apply aP_; assumption) | (apply aO_; assumption)); intro hb; try simp only [hb])
    | ((first | apply aH_ | apply aM_ | apply an_ | apply ap_) <;> intro hb <;> (try simp only [hb]) <;> (first | have hp := a2_ hb | have hp := a4_ hb | have hp := a5_ hb | have hp := a3_ hb | skip)))
theorem o4_ {s : ByteArray} (h3 : 0 < s.size) (h4 : dk_ ((dj_ s)[0]'(by rw [cz_]; exact h3)) = false) (h5 : decide (((dj_ s)[0]'(by rw [cz_]; exact h3)) = 37) = false) : cJ_ s = false := by
 have h6 := eP_ (dj_ s) 0 (by rw [cz_]; exact h3)
 rw [drop_zero] at h6
 simp only [cJ_, h6, h4, h5]; simp
theorem nk_ {s : ByteArray} (h1 : decide ((s.size : Int) < 1) = false) (h2 : decide (8 < (s.size : Int)) = false) (h3 : 0 < s.size) (h4 : dk_ ((dj_ s)[0]'(by rw [cz_]; exact h3)) = true ∨ ((dj_ s)[0]'(by rw [cz_]; exact h3)) = 37) : cJ_ s = c3_ ((dj_ s).drop 1) 1 := by
 have h5 := eP_ (dj_ s) 0 (by rw [cz_]; exact h3)
 rw [drop_zero] at h5
 have h6 := of_decide_eq_false h1
 have h7 := of_decide_eq_false h2
 have e1 : decide (1 ≤ (s.size : Int)) = true := by simp; omega
 have e2 : decide ((s.size : Int) ≤ 8) = true := by simp; omega
 simp only [cJ_, e1, e2, h5, Bool.true_and]
 rcases h4 with h4 | h4 <;> simp [h4]
def c90 : LC :=
 .q [.o [.f 2], .q [.o [.m 4 0, .s 5 (.lenStr (.tmp 4)), .bk 6 .lss false 5 1, .m 7 6, .gm 8 7 false 0, .g 9 7 false (.lenStr (.tmp 8)), .g 10 7 false (.bin .gtr false (.tmp 9) (.const (.int .i64 8))), .pt 11 7 10, .m 12
 11, .gm 13 12 false 0, .g 14 12 false (.indexStr (.tmp 13) (.const (.int .i64 0))), .gc 15 12 false 107 14, .gu 16 12 false 15, .gm 17 12 false 16, .gm 18 17 true 0, .g 19 17 true (.indexStr (.tmp 18) (.const (.int .i64
 0))), .g 20 17 true (.bin .neq false (.tmp 19) (.const (.int .u8 37))), .g 21 12 false (.pick (.tmp 17) (.tmp 20) (.const (.bool false))), .pt 22 12 21], .k 22 (.q [.o [.f 2], .ret]) .skip], .q [.o [.ki 3 1], .block 0
 (.loop (.q [.q [.o [.m 23 3, .m 24 0, .s 25 (.lenStr (.tmp 24)), .bb 26 .lss false 23 25], .k 26 .skip (.exit 0)], .block 1 (.q [.o [.m 29 0, .m 30 3, .s 31 (.indexStr (.tmp 29) (.tmp 30)), .c1 32 107 31, .nt 33 32, .m
 34 33, .gm 35 34 true 0, .gm 36 34 true 3, .g 37 34 true (.indexStr (.tmp 35) (.tmp 36)), .gc 38 34 true 108 37, .gu 39 34 true 38, .pf 40 34 39], .k 40 (.q [.o [.f 2], .ret]) .skip]), .o [.m 27 3, .bk 28 .add false 27
 1, .m 3 28]]))], .o [.t 2], .ret]
def oN_ : LF := ⟨1, 41, c90, [.tmp 2]⟩
theorem xF_ : as_ prog Tryz.f90 oN_ := al_
theorem hd_ (s : ByteArray) (hs : s.size ≤ 1048576) (h : List Row) : aa_ prog 90 [.val (.string s)] h (.val (.bool (cJ_ s))) := by
 refine ah_ mixed Tryz.func90 xF_ rfl rfl ?_ h
 have hl := cz_ s
 by_cases h0 : (s.size : Int) < 1
 ·simp (disch := omega) only [oN_, c90, h0, go_sem, reduceEqDiff, reduceCtorEq, ↓reduceIte]
  have h9 : ¬ (1 ≤ (s.size : Int)) := by omega
  exact ag_ (by simp [cJ_, h9])
 by_cases h8 : 8 < (s.size : Int)
 ·simp (disch := omega) only [oN_, c90, h0, h8, go_sem, reduceEqDiff, reduceCtorEq, ↓reduceIte]
  have h9 : ¬ ((s.size : Int) ≤ 8) := by omega
  exact ag_ (by simp [cJ_, h9])
 have hpos : 0 < s.size := by omega
 have hle : (dj_ s)[0]? = some ((dj_ s)[0]'(by omega)) := getElem?_eq_getElem (by omega)
 simp (disch := omega) only [oN_, c90, h0, h8, go_sem, reduceEqDiff, reduceCtorEq, Int.reduceLE, ↓reduceIte]
 repeat' (first
  | exact ad_ _ _
  | (refine ag_ ?_; apply Eq.symm; apply o4_ hpos <;> assumption)
  | (
   have hS0 : cJ_ s = c3_ ((dj_ s).drop 1) 1 := nk_ (by simp; omega) (by simp; omega) hpos (by simp_all)
   refine aJ_ (fun n t h => ∃ k : Nat, t 0 = .val (.string s) ∧ t 3 = .val (.int .i64 k) ∧ n = s.size - k ∧ k ≤ s.size ∧ (c3_ ((dj_ s).drop 1) 1 = c3_ ((dj_ s).drop k) k ∧ 1 ≤ k)) (s.size - 1) ?_ ?_
   ·exact ⟨1, rfl, rfl, rfl, by omega, ⟨rfl, Nat.le_refl _⟩⟩
   ·rintro J hJ n t h ⟨k, t0, k3, rfl, hk, hS⟩
    by_cases hlt : k < s.size
    ·skip
     obtain ⟨hS, hk1⟩ := hS
     rw [eP_ (dj_ s) k (by omega)] at hS
     have hk0 : decide (k = 0) = false := by simp; omega
     simp only [hk0, Bool.false_and, Bool.or_false, Bool.not_false, Bool.true_and] at hS
     simp (disch := omega) only [t0, k3, hlt, go_sem, reduceEqDiff, reduceCtorEq, ↓reduceIte]
     repeat' (first
      | exact ad_ _ _
      | exact ⟨s.size - (k + 1), by omega, hJ _ _ _ ⟨k + 1, by simp [upd, t0], by simp [upd], rfl, by omega, by refine ⟨?_, by omega⟩; rw [hS]; first | (simp only [*, Bool.true_and, Bool.or_true, Bool.true_or]; done) | simp [*]⟩⟩
      | (refine ag_ ?_; rw [hS0, hS]; first | (simp only [*, Bool.false_and, Bool.or_self]; done) | (simp [*]; done))
      | (refine ag_ ?_; rw [hS0, hS.1, ff_ _ _ (by omega)])
      | simp (disch := omega) only [t0, k3, go_sem, reduceEqDiff, reduceCtorEq, ↓reduceIte]
      | (refine aa_.call (ck_ _ _) ?_)
      | (refine aa_.q (ck_ _ _) ?_)
      | (refine aa_.call (dr_ _ _) ?_)
      | (refine aa_.q (dr_ _ _) ?_)
      | ((first | (apply bf_; assumption) | (apply bh_; assumption) | (apply bs_; assumption) | (apply bt_; assumption)); intro hb; try simp only [hb])
      | ((first | (apply aF_; assumption) | (apply aE_; assumption) | (apply aP_; assumption) | (apply aO_; assumption)); intro hb; try simp only [hb])
      | ((first | apply aH_ | apply aM_ | apply an_ | apply ap_) <;> intro hb <;> (try simp only [hb]) <;> (first | have hp := a2_ hb | have hp := a4_ hb | have hp := a5_ hb | have hp := a3_ hb | skip)))
    ·skip
     simp (disch := omega) only [t0, k3, hlt, go_sem, reduceEqDiff, reduceCtorEq, ↓reduceIte]
     repeat' (first
      | exact ad_ _ _
      | (refine ag_ ?_; rw [hS0, hS]; first | (simp only [*, Bool.and_true, Bool.true_and, Bool.and_false, Bool.false_and, Bool.or_true, Bool.true_or, Bool.or_false, Bool.false_or, Bool.not_true, Bool.not_false, decide_true, decide_false, Bool.and_self, Bool.or_self]; done) | (simp [*]; done))
      | (refine ag_ ?_; rw [hS0, hS.1, ff_ _ _ (by omega)])
      | simp (disch := omega) only [t0, k3, go_sem, reduceEqDiff, Nat.reduceAdd, reduceLeDiff, reduceCtorEq, Int.reduceLT, Int.reduceLE, Int.reduceNeg, Int.reduceSub, Int.reduceAdd, Int.reduceToNat, ↓reduceIte]
      | (refine aa_.call (ck_ _ _) ?_)
      | (refine aa_.q (ck_ _ _) ?_)
      | (refine aa_.call (dr_ _ _) ?_)
      | (refine aa_.q (dr_ _ _) ?_)
      | ((first | (apply bf_; assumption) | (apply bh_; assumption) | (apply bs_; assumption) | (apply bt_; assumption)); intro hb; try simp only [hb])
      | ((first | (apply aF_; assumption) | (apply aE_; assumption) | (apply aP_; assumption) | (apply aO_; assumption)); intro hb; try simp only [hb])
      | ((first | apply aH_ | apply aM_ | apply an_ | apply ap_) <;> intro hb <;> (try simp only [hb]) <;> (first | have hp := a2_ hb | have hp := a4_ hb | have hp := a5_ hb | have hp := a3_ hb | skip))))
  | simp (disch := omega) only [go_sem, reduceEqDiff, reduceCtorEq, Int.reduceLE, ↓reduceIte]
  | (refine aa_.call (ck_ _ _) ?_)
  | (refine aa_.q (ck_ _ _) ?_)
  | ((first | (apply bf_; assumption) | (apply bh_; assumption) | (apply bs_; assumption) | (apply bt_; assumption)); intro hb; try simp only [hb])
  | ((first | (apply aF_; assumption) | (apply aE_; assumption) | (apply aP_; assumption) | (apply aO_; assumption)); intro hb; try simp only [hb])
  | ((first | apply aH_ | apply aM_ | apply an_ | apply ap_) <;> intro hb <;> (try simp only [hb]) <;> (first | have hp := a2_ hb | have hp := a4_ hb | have hp := a5_ hb | have hp := a3_ hb | skip)))
def way (n : ByteArray) (s : List ByteArray) (o : ByteArray) (os : List ByteArray) : Bool := decide (n = o) && (pY_ s os || pY_ os s)
def c59 : LC :=
 .q [.o [.f 2], .o [.m 3 0, .c1 4 90 3, .m 2 4], .ret]
def v2_ : LF := ⟨1, 5, c59, [.tmp 2]⟩
theorem xv_ : as_ prog Tryz.f59 v2_ := al_
theorem hG_ (s : ByteArray) (hs : s.size ≤ 1048576) (h : List Row) : aa_ prog 59 [.val (.string s)] h (.val (.bool (cJ_ s))) := by
 refine ah_ mixed Tryz.func59 xv_ rfl rfl ?_ h
 simp (disch := omega) only [v2_, c59, go_sem, reduceCtorEq, ↓reduceIte]
 repeat' (first
  | exact ad_ _ _
  | simp (disch := omega) only [go_sem, ↓reduceIte]
  | (refine aa_.call (hd_ _ hs _) ?_)
  | (refine aa_.q (hd_ _ hs _) ?_)
  | ((first | (apply aF_; assumption) | (apply aE_; assumption) | (apply aP_; assumption) | (apply aO_; assumption)); intro hb; try simp only [hb])
  | ((first | apply an_ | apply ap_) <;> intro hb <;> (try simp only [hb]) <;> (first | have hp := a2_ hb | have hp := a4_ hb | have hp := a5_ hb | have hp := a3_ hb | skip)))
end Go.Proofs.YthahmhkbcdpkjabGreatDoor
