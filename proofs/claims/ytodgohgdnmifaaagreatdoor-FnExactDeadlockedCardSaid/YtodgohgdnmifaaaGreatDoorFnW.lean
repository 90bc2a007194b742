/-
 Contracts of functions. Conditions: as each theorem says.
-/
import Derived.Test.YtodgohgdnmifaaaGreatDoorFnO
import Derived.Test.YtodgohgdnmifaaaGreatDoorPlOrd
import Derived.Test.YtodgohgdnmifaaaGreatDoorAwC
import Derived.Laws.Bits64
namespace Go.Proofs.YtodgohgdnmifaaaGreatDoor
open Tryz (prog)
open Nat (reduceEqDiff reduceLeDiff)
open List
open Go.AW
set_option linter.unusedVariables false
set_option linter.unusedSimpArgs false
set_option maxRecDepth 4000
abbrev bs (s : ByteArray) : List UInt8 := s.data.toList
abbrev bss (xs : List ByteArray) : List (List UInt8) := xs.map fun s => s.data.toList
theorem g7_ (s : ByteArray) : txt s.data.toList = s := (lH_ s).symm
theorem jI_ (s : ByteArray) : s.data.toList.length = s.size := by rw [Array.length_toList]; rfl
theorem oR_ (a b : ByteArray) : (a.data.toList = b.data.toList) = (a = b) := by
 apply propext; constructor
 ·intro h; rw [← g7_ a, ← g7_ b, h]
 ·intro h; rw [h]
theorem do_ (s : ByteArray) (hs : s.size ≤ 1048576) (h : List Row) : aa_ prog 175 [.val (.string s)] h (.val (.bool (ch_ s.data.toList))) := by
 have := jU_ s.data.toList (by rw [jI_]; omega) h
 rwa [g7_] at this
theorem d4_ (s : ByteArray) (hs : s.size ≤ 1048576) (h : List Row) : aa_ prog 176 [.val (.string s)] h (.val (.int .i64 (bD_ s.data.toList))) := by
 have := hY_ s.data.toList (by rw [jI_]; omega) h
 rwa [g7_] at this
theorem c8_ (s : ByteArray) (hs : s.size ≤ 1048576) (h : List Row) : aa_ prog 160 [.val (.string s)] h (.val (.bool (ch_ s.data.toList))) := by
 have := ja_ s.data.toList (by rw [jI_]; omega) h
 rwa [g7_] at this
theorem d5_ (s : ByteArray) (hs : s.size ≤ 1048576) (h : List Row) : aa_ prog 161 [.val (.string s)] h (.val (.int .i64 (bD_ s.data.toList))) := by
 have := hZ_ s.data.toList (by rw [jI_]; omega) h
 rwa [g7_] at this
theorem kt_ (q : Bool) (a b : ByteArray) : bj_ .lss q (.val (.string a)) (.val (.string b)) = some (.val (.bool (Op.bytesLess a.data.toList b.data.toList))) := by
 rw [l5_, c1_, c1_]
theorem rN_ (q : Bool) (a b : ByteArray) : bj_ .gtr q (.val (.string a)) (.val (.string b)) = some (.val (.bool (Op.bytesLess b.data.toList a.data.toList))) := by
 have e : bj_ .gtr q (.val (.string a)) (.val (.string b)) = some (.val (.bool (!(Op.bytesLess a.toList b.toList || a.toList == b.toList)))) := rfl
 rw [e, c1_, c1_]
 have : (!(Op.bytesLess a.data.toList b.data.toList || a.data.toList == b.data.toList)) = Op.bytesLess b.data.toList a.data.toList := by
  by_cases h1 : Op.bytesLess a.data.toList b.data.toList = true
  ·rw [h1, jq_ _ _ h1]; rfl
  ·by_cases h2 : a.data.toList = b.data.toList
   ·rw [h2, gN_]; simp
   ·have h3 : (a.data.toList == b.data.toList) = false := by simpa using h2
    have h1' : Op.bytesLess a.data.toList b.data.toList = false := by simpa using h1
    rw [h1', h3]
    by_cases h4 : Op.bytesLess b.data.toList a.data.toList = true
    ·rw [h4]; rfl
    ·exact absurd (hu_ _ _ h1' (by simpa using h4)) h2
 rw [this]
def u0_ : LC :=
 .q [.o [.f 2], .o [.m 3 0, .m 4 0, .bb 5 .neq false 3 4, .m 2 5], .ret]
def rH_ : LF := ⟨1, 6, u0_, [.tmp 2]⟩
theorem uB_ : av_ prog Tryz.f170 rH_ := aq_
theorem eV_ (s : ByteArray)  (h : List Row) : aa_ prog 170 [.val (.string s)] h (.val (.bool false)) := by
 refine am_ mixed Tryz.func170 uB_ rfl rfl ?_ h
 simp (disch := omega) only [rH_, u0_, go_sem, reduceEqDiff, reduceCtorEq, ↓reduceIte]
 repeat' (first
  | exact ad_ _ _
  | simp (disch := omega) only [go_sem, reduceEqDiff, Nat.reduceAdd, reduceLeDiff, reduceCtorEq, Int.reduceLT, Int.reduceLE, Int.reduceNeg, Int.reduceSub, Int.reduceAdd, Int.reduceToNat, ↓reduceIte]
  | ((first | (apply aD_; assumption) | (apply aE_; assumption) | (apply aL_; assumption) | (apply aJ_; assumption)); intro hb; try simp only [hb])
  | ((first | apply an_ | apply ao_) <;> intro hb <;> (try simp only [hb]) <;> (first | have hp := a4_ hb | have hp := a3_ hb | have hp := a1_ hb | have hp := aZ_ hb | skip)))
def us_ : LC :=
 .q [.o [.f 2], .o [.m 3 0, .m 4 0, .bb 5 .neq false 3 4, .m 2 5], .ret]
def rJ_ : LF := ⟨1, 6, us_, [.tmp 2]⟩
theorem tl_ : av_ prog Tryz.f154 rJ_ := aq_
theorem fv_ (s : Int)  (h : List Row) : aa_ prog 154 [.val (.int .i64 s)] h (.val (.bool false)) := by
 refine am_ mixed Tryz.func154 tl_ rfl rfl ?_ h
 simp (disch := omega) only [rJ_, us_, go_sem, reduceEqDiff, reduceCtorEq, ↓reduceIte]
 repeat' (first
  | exact ad_ _ _
  | simp (disch := omega) only [go_sem, reduceEqDiff, Nat.reduceAdd, reduceLeDiff, reduceCtorEq, Int.reduceLT, Int.reduceLE, Int.reduceNeg, Int.reduceSub, Int.reduceAdd, Int.reduceToNat, ↓reduceIte]
  | ((first | (apply aD_; assumption) | (apply aE_; assumption) | (apply aL_; assumption) | (apply aJ_; assumption)); intro hb; try simp only [hb])
  | ((first | apply an_ | apply ao_) <;> intro hb <;> (try simp only [hb]) <;> (first | have hp := a4_ hb | have hp := a3_ hb | have hp := a1_ hb | have hp := aZ_ hb | skip)))
def tK_ : LC :=
 .q [.o [.ki 4 0], .o [.m 7 0, .c1 8 154 7, .m 5 8], .o [.m 9 1, .c1 10 154 9, .m 6 10], .q [.o [.m 11 5], .k 11 (.q [.q [.o [.m 12 6], .k 12 (.q [.o [.ki 4 0], .ret]) .skip], .o [.s 4 (.mov (.const (.int .i64 (-1))))],
 .ret]) .skip], .q [.o [.m 13 6], .k 13 (.q [.o [.ki 4 1], .ret]) .skip], .q [.o [.m 14 0, .m 15 1, .bb 16 .lss false 14 15], .k 16 (.q [.o [.s 4 (.mov (.const (.int .i64 (-1))))], .ret]) .skip], .q [.o [.m 17 0, .m 18 1,
 .bb 19 .gtr false 17 18], .k 19 (.q [.o [.ki 4 1], .ret]) .skip], .o [.ki 4 0], .ret]
def rB_ : LF := ⟨2, 20, tK_, [.tmp 4]⟩
theorem sH_ : av_ prog Tryz.f145 rB_ := aq_
theorem cv_ (a b : Int)  (h : List Row) : aa_ prog 145 [.val (.int .i64 a), .val (.int .i64 b)] h (.val (.int .i64 (e1_ a b))) := by
 refine am_ mixed Tryz.func145 sH_ rfl rfl ?_ h
 simp (disch := omega) only [rB_, tK_, go_sem, reduceCtorEq, Int.reduceNeg, ↓reduceIte]
 repeat' (first
  | exact ad_ _ _
  | (refine at_ ?_; simp only [decide_eq_true_eq, decide_eq_false_iff_not] at *; unfold e1_; (repeat' split) <;> omega)
  | simp (disch := omega) only [go_sem, reduceEqDiff, reduceCtorEq, Int.reduceNeg, ↓reduceIte]
  | (refine aa_.call (fv_ _ _) ?_)
  | (refine aa_.q (fv_ _ _) ?_)
  | ((first | (apply aD_; assumption) | (apply aE_; assumption) | (apply aL_; assumption) | (apply aJ_; assumption)); intro hb; try simp only [hb])
  | ((first | apply an_ | apply ao_) <;> intro hb <;> (try simp only [hb]) <;> (first | have hp := a4_ hb | have hp := a3_ hb | have hp := a1_ hb | have hp := aZ_ hb | skip)))
def th_ : LC :=
 .q [.o [.ki 4 0], .o [.m 7 0, .c1 8 170 7, .m 5 8], .o [.m 9 1, .c1 10 170 9, .m 6 10], .q [.o [.m 11 5], .k 11 (.q [.q [.o [.m 12 6], .k 12 (.q [.o [.ki 4 0], .ret]) .skip], .o [.s 4 (.mov (.const (.int .i64 (-1))))],
 .ret]) .skip], .q [.o [.m 13 6], .k 13 (.q [.o [.ki 4 1], .ret]) .skip], .q [.o [.m 14 0, .m 15 1, .bb 16 .lss false 14 15], .k 16 (.q [.o [.s 4 (.mov (.const (.int .i64 (-1))))], .ret]) .skip], .q [.o [.m 17 0, .m 18 1,
 .bb 19 .gtr false 17 18], .k 19 (.q [.o [.ki 4 1], .ret]) .skip], .o [.ki 4 0], .ret]
def rK_ : LF := ⟨2, 20, th_, [.tmp 4]⟩
theorem sM_ : av_ prog Tryz.f163 rK_ := aq_
theorem dc_ (a b : ByteArray)  (h : List Row) : aa_ prog 163 [.val (.string a), .val (.string b)] h (.val (.int .i64 (hO_ a.data.toList b.data.toList))) := by
 refine am_ mixed Tryz.func163 sM_ rfl rfl ?_ h
 simp (disch := omega) only [rK_, th_, go_sem, reduceCtorEq, Int.reduceNeg, ↓reduceIte]
 repeat' (first
  | exact ad_ _ _
  | (refine at_ ?_; simp only [hO_, *]; first | rfl | (simp; done))
  | simp (disch := omega) only [kt_, rN_, go_sem, reduceEqDiff, reduceCtorEq, Int.reduceNeg, ↓reduceIte]
  | (refine aa_.call (eV_ _ _) ?_)
  | (refine aa_.q (eV_ _ _) ?_)
  | ((first | (apply bd_; assumption) | (apply be_; assumption) | (apply bo_; assumption) | (apply bp_; assumption)); intro hb; try simp only [hb])
  | ((first | (apply aD_; assumption) | (apply aE_; assumption) | (apply aL_; assumption) | (apply aJ_; assumption)); intro hb; try simp only [hb])
  | ((first | apply aF_ | apply aM_ | apply an_ | apply ao_) <;> intro hb <;> (try simp only [hb]) <;> (first | have hp := a4_ hb | have hp := a3_ hb | have hp := a1_ hb | have hp := aZ_ hb | skip)))
def uM_ : LC :=
 .q [.o [.ki 4 0], .o [.m 7 0, .c1 8 175 7, .m 9 1, .c1 10 175 9, .m 5 8, .m 6 10], .block 0 (.q [.o [.m 12 5, .m 13 12, .gm 14 13 true 6, .pf 15 13 14, .m 11 15], .k 11 (.q [.o [.m 16 0, .c1 17 176 16, .m 18 1, .c1 19
 176 18, .c2 20 145 17 19, .m 4 20], .ret]) (.q [.o [.m 22 5, .m 21 22], .k 21 (.q [.o [.s 4 (.mov (.const (.int .i64 (-1))))], .ret]) (.q [.o [.m 24 6, .m 23 24], .k 23 (.q [.o [.ki 4 1], .ret]) .skip])])]), .o [.m 25 0,
 .m 26 1, .c2 27 163 25 26, .m 4 27], .ret]
def rC_ : LF := ⟨2, 28, uM_, [.tmp 4]⟩
theorem sU_ : av_ prog Tryz.f172 rC_ := aq_
theorem gt_ (a b : ByteArray) (ha : a.size ≤ 1048576) (hbb : b.size ≤ 1048576) (h : List Row) : aa_ prog 172 [.val (.string a), .val (.string b)] h (.val (.int .i64 (da_ a.data.toList b.data.toList))) := by
 refine am_ mixed Tryz.func172 sU_ rfl rfl ?_ h
 simp (disch := omega) only [rC_, uM_, go_sem, reduceCtorEq, Int.reduceNeg, ↓reduceIte]
 repeat' (first
  | exact ad_ _ _
  | (refine at_ ?_; simp only [da_, *]; first | rfl | (simp; done))
  | simp (disch := omega) only [go_sem, reduceEqDiff, reduceCtorEq, Int.reduceNeg, ↓reduceIte]
  | (refine aa_.call (do_ _ ha _) ?_)
  | (refine aa_.q (do_ _ ha _) ?_)
  | (refine aa_.call (do_ _ hbb _) ?_)
  | (refine aa_.q (do_ _ hbb _) ?_)
  | (refine aa_.call (d4_ _ ha _) ?_)
  | (refine aa_.q (d4_ _ ha _) ?_)
  | (refine aa_.call (d4_ _ hbb _) ?_)
  | (refine aa_.q (d4_ _ hbb _) ?_)
  | (refine aa_.call (cv_ _ _ _) ?_)
  | (refine aa_.q (cv_ _ _ _) ?_)
  | (refine aa_.call (dc_ _ _ _) ?_)
  | (refine aa_.q (dc_ _ _ _) ?_)
  | ((first | (apply bd_; assumption) | (apply be_; assumption) | (apply bo_; assumption) | (apply bp_; assumption)); intro hb; try simp only [hb])
  | ((first | (apply aD_; assumption) | (apply aE_; assumption) | (apply aL_; assumption) | (apply aJ_; assumption)); intro hb; try simp only [hb])
  | ((first | apply aF_ | apply aM_ | apply an_ | apply ao_) <;> intro hb <;> (try simp only [hb]) <;> (first | have hp := a4_ hb | have hp := a3_ hb | have hp := a1_ hb | have hp := aZ_ hb | skip)))
def s8_ : LC :=
 .q [.o [.f 4], .o [.m 7 0, .c1 8 160 7, .m 5 8], .o [.m 9 1, .c1 10 160 9, .m 6 10], .q [.o [.m 11 5, .m 12 11, .gm 13 12 true 6, .pf 14 12 13], .k 14 (.q [.o [.m 15 0, .c1 16 161 15, .m 17 1, .c1 18 161 17, .bb 19 .lss
 false 16 18, .m 4 19], .ret]) .skip], .q [.o [.m 20 5, .m 21 6, .bb 22 .neq true 20 21], .k 22 (.q [.o [.m 23 5, .m 4 23], .ret]) .skip], .o [.m 24 0, .m 25 1, .bb 26 .lss false 24 25, .m 4 26], .ret]
def qT_ : LF := ⟨2, 27, s8_, [.tmp 4]⟩
theorem s4_ : av_ prog Tryz.f138 qT_ := aq_
theorem fD_ (a b : ByteArray) (ha : a.size ≤ 1048576) (hbb : b.size ≤ 1048576) (h : List Row) : aa_ prog 138 [.val (.string a), .val (.string b)] h (.val (.bool (before a.data.toList b.data.toList))) := by
 refine am_ mixed Tryz.func138 s4_ rfl rfl ?_ h
 simp (disch := omega) only [qT_, s8_, go_sem, reduceCtorEq, ↓reduceIte]
 repeat' (first
  | exact ad_ _ _
  | (refine ae_ ?_; simp only [before, *]; first | rfl | (simp; done))
  | (refine ae_ ?_; simp_all [before]; done)
  | simp (disch := omega) only [kt_, mc_, go_sem, reduceEqDiff, reduceCtorEq, ↓reduceIte]
  | (refine aa_.call (c8_ _ ha _) ?_)
  | (refine aa_.q (c8_ _ ha _) ?_)
  | (refine aa_.call (c8_ _ hbb _) ?_)
  | (refine aa_.q (c8_ _ hbb _) ?_)
  | (refine aa_.call (d5_ _ ha _) ?_)
  | (refine aa_.q (d5_ _ ha _) ?_)
  | (refine aa_.call (d5_ _ hbb _) ?_)
  | (refine aa_.q (d5_ _ hbb _) ?_)
  | ((first | (apply bd_; assumption) | (apply be_; assumption) | (apply bo_; assumption) | (apply bp_; assumption)); intro hb; try simp only [hb])
  | ((first | (apply aD_; assumption) | (apply aE_; assumption) | (apply aL_; assumption) | (apply aJ_; assumption)); intro hb; try simp only [hb])
  | ((first | apply aF_ | apply aM_ | apply an_ | apply ao_) <;> intro hb <;> (try simp only [hb]) <;> (first | have hp := a4_ hb | have hp := a3_ hb | have hp := a1_ hb | have hp := aZ_ hb | skip)))
def tv_ : LC :=
 .q [.o [.f 4], .o [.m 5 0, .m 6 1, .c2 7 138 5 6, .m 4 7], .ret]
def rh_ : LF := ⟨2, 8, tv_, [.tmp 4]⟩
theorem sP_ : av_ prog Tryz.f110 rh_ := aq_
theorem kw_ (a b : ByteArray) (ha : a.size ≤ 1048576) (hbb : b.size ≤ 1048576) (h : List Row) : aa_ prog 110 [.val (.string a), .val (.string b)] h (.val (.bool (before a.data.toList b.data.toList))) := by
 refine am_ mixed Tryz.func110 sP_ rfl rfl ?_ h
 simp (disch := omega) only [rh_, tv_, go_sem, reduceEqDiff, reduceCtorEq, ↓reduceIte]
 repeat' (first
  | exact ad_ _ _
  | simp (disch := omega) only [go_sem, ↓reduceIte]
  | (refine aa_.call (fD_ _ _ ha hbb _) ?_)
  | (refine aa_.q (fD_ _ _ ha hbb _) ?_)
  | ((first | (apply aD_; assumption) | (apply aE_; assumption) | (apply aL_; assumption) | (apply aJ_; assumption)); intro hb; try simp only [hb])
  | ((first | apply an_ | apply ao_) <;> intro hb <;> (try simp only [hb]) <;> (first | have hp := a4_ hb | have hp := a3_ hb | have hp := a1_ hb | have hp := aZ_ hb | skip)))
def eE_ (c : ByteArray → ByteArray → Int) : List ByteArray → List ByteArray → Int
 | [], [] => 0
 | [], _ :: _ => -1
 | _ :: _, [] => 1
 | x :: xs, y :: ys => if c x y = 0 then eE_ c xs ys else c x y
theorem nr_ (c : ByteArray → ByteArray → Int) (xs ys : List ByteArray) (k : Nat) (h1 : k < xs.length) (h2 : k < ys.length) : eE_ c (xs.drop k) (ys.drop k) = if c xs[k] ys[k] = 0 then eE_ c (xs.drop (k + 1)) (ys.drop (k + 1)) else c xs[k] ys[k] := by
 rw [drop_eq_getElem_cons h1, drop_eq_getElem_cons h2]; rfl
theorem nR_ (c : ByteArray → ByteArray → Int) (xs ys : List ByteArray) (k : Nat) (h1 : k < xs.length) (h2 : ys.length ≤ k) : eE_ c (xs.drop k) (ys.drop k) = 1 := by
 rw [drop_eq_getElem_cons h1, drop_eq_nil_of_le h2]; rfl
theorem m0_ (c : ByteArray → ByteArray → Int) (xs ys : List ByteArray) (k : Nat) (h1 : xs.length ≤ k) (h2 : k < ys.length) : eE_ c (xs.drop k) (ys.drop k) = -1 := by
 rw [drop_eq_nil_of_le h1, drop_eq_getElem_cons h2]; rfl
theorem oG_ (c : ByteArray → ByteArray → Int) (xs ys : List ByteArray) (k : Nat) (h1 : xs.length ≤ k) (h2 : ys.length ≤ k) : eE_ c (xs.drop k) (ys.drop k) = 0 := by
 rw [drop_eq_nil_of_le h1, drop_eq_nil_of_le h2]; rfl
def sG_ : LC :=
 .q [.o [.ki 6 0], .q [.o [.m 11 0, .ll 12 11, .ki 13 0], .block 0 (.loop (.q [.o [.bb 14 .lss false 13 12], .k 14 .skip (.exit 0), .block 1 (.q [.o [.m 15 13, .ia 16 1 11 13, .ln 17 16, .m 7 15, .m 8 17], .q [.o [.m 18
 7, .m 19 1, .ll 20 19, .bb 21 .geq false 18 20], .k 21 (.q [.o [.ki 6 1], .ret]) .skip], .o [.m 22 1, .m 23 7, .ia 24 1 22 23, .ln 25 24, .m 9 25], .o [.m 26 2, .m 27 8, .m 28 9, .s 29 (.callv (.tmp 26) [.tmp 27, .tmp
 28]), .m 10 29], .o [.m 30 10, .bk 31 .neq false 30 0], .k 31 (.q [.o [.m 32 10, .m 6 32], .ret]) .skip]), .o [.bk 33 .add false 13 1, .m 13 33]]))], .q [.o [.m 34 0, .ll 35 34, .m 36 1, .ll 37 36, .bb 38 .lss false 35
 37], .k 38 (.q [.o [.s 6 (.mov (.const (.int .i64 (-1))))], .ret]) .skip], .o [.ki 6 0], .ret]
def q4_ : LF := ⟨3, 39, sG_, [.tmp 6]⟩
theorem ty_ : av_ prog Tryz.f171 q4_ := aq_
theorem dl_ (xs ys : List ByteArray) (c : ByteArray → ByteArray → Int) (g : Nat) (hx : xs.length ≤ 1048576) (hy : ys.length ≤ 1048576) (hc : bH_ prog g = true) (hp : ∀ x ∈ xs, ∀ y ∈ ys, ∀ h, aa_ prog g [.val (.string x), .val (.string y)] h (.val (.int .i64 (c x y)))) (h : List Row) :
 aa_ prog 171 [.list 0 1 (xs.map az_), .list 0 1 (ys.map az_), .fn g [] []] h (.val (.int .i64 (eE_ c xs ys))) := by
 refine am_ mixed Tryz.func171 ty_ rfl rfl ?_ h
 simp (disch := omega) only [q4_, sG_, go_sem, reduceCtorEq, Int.reduceNeg, ↓reduceIte]
 refine ay_ (fun n t h => ∃ k : Nat, t 0 = .list 0 1 (xs.map az_) ∧ t 1 = .list 0 1 (ys.map az_) ∧ t 2 = .fn g [] [] ∧ t 11 = .list 0 1 (xs.map az_) ∧ t 12 = .val (.int .i64 xs.length) ∧ t 13 = .val (.int .i64 k) ∧ n = xs.length - k ∧ k ≤ xs.length ∧ k ≤ ys.length ∧ eE_ c xs ys = eE_ c (xs.drop k) (ys.drop k)) xs.length ?_ ?_
 ·exact ⟨0, rfl, rfl, rfl, rfl, rfl, rfl, rfl, Nat.zero_le _, Nat.zero_le _, rfl⟩
 ·rintro J hJ n t h ⟨k, t0, t1, t2, t11, t12, t13, rfl, hk, hk2, hS⟩
  by_cases hlt : k < xs.length
  ·by_cases hlt2 : k < ys.length
   ·have hge : ¬ ((ys.length : Int) ≤ k) := by omega
    rw [nr_ c xs ys k hlt hlt2] at hS
    simp (disch := omega) only [t1, t2, t11, t12, t13, hlt, hge, hc, az_, go_sem, reduceEqDiff, Int.reduceNeg, ↓reduceIte]
    refine aa_.call (hp xs[k] (getElem_mem hlt) ys[k] (getElem_mem hlt2) _) ?_
    by_cases e : c xs[k] ys[k] = 0
    ·simp (disch := omega) only [t13, e, go_sem, reduceEqDiff, Int.reduceNeg, ↓reduceIte]
     exact ⟨xs.length - (k + 1), by omega, hJ _ _ _ ⟨k + 1, by simp [upd, t0], by simp [upd, t1], by simp [upd, t2], by simp [upd, t11], by simp [upd, t12], by simp [upd], rfl, by omega, by omega, by rw [hS, if_pos e]⟩⟩
    ·simp (disch := omega) only [e, go_sem, reduceEqDiff, Int.reduceNeg, ↓reduceIte]
     exact at_ (by rw [hS, if_neg e])
   ·have hge : ((ys.length : Int) ≤ k) := by omega
    simp (disch := omega) only [t1, t11, t12, t13, hlt, hge, az_, go_sem, reduceEqDiff, Int.reduceNeg, ↓reduceIte]
    exact at_ (by rw [hS, nR_ c xs ys k hlt (by omega)])
  ·by_cases hlt2 : k < ys.length
   ·have hl : (xs.length : Int) < ys.length := by omega
    simp (disch := omega) only [t0, t1, t12, t13, hlt, hl, go_sem, reduceEqDiff, reduceCtorEq, Int.reduceNeg, ↓reduceIte]
    exact at_ (by rw [hS, m0_ c xs ys k (by omega) hlt2])
   ·have hl : ¬ ((xs.length : Int) < ys.length) := by omega
    simp (disch := omega) only [t0, t1, t12, t13, hlt, hl, go_sem, reduceEqDiff, reduceCtorEq, Int.reduceNeg, ↓reduceIte]
    exact at_ (by rw [hS, oG_ c xs ys k (by omega) (by omega)])
theorem h2_ : ∀ xs ys : List ByteArray, eE_ (fun a b => da_ a.data.toList b.data.toList) xs ys = gS_ (bss xs) (bss ys)
 | [], [] => rfl
 | [], _ :: _ => rfl
 | _ :: _, [] => rfl
 | x :: xs, y :: ys => by simp only [eE_, bss, map_cons, gS_]; rw [h2_ xs ys]
theorem fQ_ {xs : List ByteArray} {b : Nat} (h : as_ ByteArray.size xs ≤ b) {s : ByteArray} (hs : s ∈ xs) : s.size ≤ b := by
 have := cZ_ (f := ByteArray.size) hs; omega
def uU_ : LC :=
 .q [.o [.ki 4 0], .o [.m 5 0, .m 6 1, .s 7 (.call 171 [.tmp 5, .tmp 6, .func 172]), .m 4 7], .ret]
def rv_ : LF := ⟨2, 8, uU_, [.tmp 4]⟩
theorem tS_ : av_ prog Tryz.f164 rv_ := aq_
theorem hq_ (a b : List ByteArray) (ha : as_ ByteArray.size a ≤ 1048576) (hb : as_ ByteArray.size b ≤ 1048576) (h : List Row) : aa_ prog 164 [.list 0 1 (a.map az_), .list 0 1 (b.map az_)] h (.val (.int .i64 (gS_ (bss a) (bss b)))) := by
 refine am_ mixed Tryz.func164 tS_ rfl rfl ?_ h
 simp (disch := omega) only [rv_, uU_, go_sem, reduceEqDiff, reduceCtorEq, ↓reduceIte]
 repeat' (first
  | exact ad_ _ _
  | exact at_ (h2_ a b)
  | simp (disch := omega) only [go_sem, ↓reduceIte]
  | (refine aa_.call (dl_ a b (fun a b => da_ a.data.toList b.data.toList) 172 (ar_ ha) (ar_ hb) (by kernel_rfl) (fun x hx y hy h => gt_ x y (fQ_ ha hx) (fQ_ hb hy) h) _) ?_)
  | (refine aa_.q (dl_ a b (fun a b => da_ a.data.toList b.data.toList) 172 (ar_ ha) (ar_ hb) (by kernel_rfl) (fun x hx y hy h => gt_ x y (fQ_ ha hx) (fQ_ hb hy) h) _) ?_)
  | ((first | (apply aD_; assumption) | (apply aE_; assumption) | (apply aL_; assumption) | (apply aJ_; assumption)); intro hb; try simp only [hb])
  | ((first | apply an_ | apply ao_) <;> intro hb <;> (try simp only [hb]) <;> (first | have hp := a4_ hb | have hp := a3_ hb | have hp := a1_ hb | have hp := aZ_ hb | skip)))
def orL : List Int → Int
 | [] => 0
 | x :: xs => if x = 0 then orL xs else x
theorem qn_ (xs : List Int) (k : Nat) (h : k < xs.length) : orL (xs.drop k) = if xs[k] = 0 then orL (xs.drop (k + 1)) else xs[k] := by
 rw [drop_eq_getElem_cons h]; rfl
theorem rW_ (xs : List Int) (k : Nat) (h : xs.length ≤ k) : orL (xs.drop k) = 0 := by
 rw [drop_eq_nil_of_le h]; rfl
def uJ_ : LC :=
 .q [.o [.ki 2 0], .o [.ki 3 0], .q [.o [.m 6 0, .ll 7 6, .ki 8 0], .block 0 (.loop (.q [.o [.bb 9 .lss false 8 7], .k 9 .skip (.exit 0), .block 1 (.q [.o [.ia 10 1 6 8, .ln 11 10, .m 5 11], .o [.m 12 5, .m 13 3, .bb 14
 .neq false 12 13], .k 14 (.q [.o [.m 15 5, .m 2 15], .ret]) .skip]), .o [.bk 16 .add false 8 1, .m 8 16]]))], .o [.m 17 3, .m 2 17], .ret]
def re_ : LF := ⟨1, 18, uJ_, [.tmp 2]⟩
theorem sI_ : av_ prog Tryz.f144 re_ := aq_
theorem ly_ (xs : List Int) (hx : xs.length ≤ 1048576) (h : List Row) : aa_ prog 144 [.list 0 1 (xs.map fun x => [.val (.int .i64 x)])] h (.val (.int .i64 (orL xs))) := by
 refine am_ mixed Tryz.func144 sI_ rfl rfl ?_ h
 simp (disch := omega) only [re_, uJ_, go_sem, reduceCtorEq, ↓reduceIte]
 refine ay_ (fun n t h => ∃ k : Nat, t 3 = .val (.int .i64 0) ∧ t 6 = .list 0 1 (xs.map fun x => [.val (.int .i64 x)]) ∧ t 7 = .val (.int .i64 xs.length) ∧ t 8 = .val (.int .i64 k) ∧ n = xs.length - k ∧ k ≤ xs.length ∧ orL xs = orL (xs.drop k)) xs.length ?_ ?_
 ·exact ⟨0, rfl, rfl, rfl, rfl, rfl, Nat.zero_le _, rfl⟩
 ·rintro J hJ n t h ⟨k, t3, t6, t7, t8, rfl, hk, hS⟩
  by_cases hlt : k < xs.length
  ·rw [qn_ xs k hlt] at hS
   by_cases e : xs[k] = 0
   ·simp (disch := omega) only [t3, t6, t7, t8, hlt, e, go_sem, reduceEqDiff, ↓reduceIte]
    exact ⟨xs.length - (k + 1), by omega, hJ _ _ _ ⟨k + 1, by simp [upd, t3], by simp [upd, t6], by simp [upd, t7], by simp [upd], rfl, by omega, by rw [hS, if_pos e]⟩⟩
   ·simp (disch := omega) only [t3, t6, t7, t8, hlt, e, go_sem, reduceEqDiff, ↓reduceIte]
    exact at_ (by rw [hS, if_neg e])
  ·simp (disch := omega) only [t3, t7, t8, hlt, go_sem, reduceEqDiff, ↓reduceIte]
   exact at_ (by rw [hS, rW_ _ _ (by omega)])
theorem he_ (a b : Int) (h : List Row) : aa_ prog 144 [.list 0 1 [[.val (.int .i64 a)], [.val (.int .i64 b)]]] h (.val (.int .i64 (if a = 0 then b else a))) := by
 have := ly_ [a, b] (by simp) h
 have e : orL [a, b] = if a = 0 then b else a := by
  simp only [orL]; split
  ·split
   ·omega
   ·rfl
  ·rfl
 rwa [e] at this
theorem nH_ (a b : Int) (E : Tag) (l : Nat) (H : List Row) (K : AV → List Row → Prop) (hl : H[l]? = some ⟨E, 1, [[.val (.int .i64 a)], [.val (.int .i64 b)]]⟩) (hk : K (.val (.int .i64 (if a = 0 then b else a))) H) : callSem prog 144 [.own l 2] H K :=
 lX_ (rs := [.list 0 1 [[.val (.int .i64 a)], [.val (.int .i64 b)]]]) (fun h => he_ a b h) (show aX_ H [.own l 2] _ from ⟨_, [], rfl, .inr ⟨2, [l], ⟨_, [[.val (.int .i64 a)], [.val (.int .i64 b)]], [], hl, rfl, by
  refine ⟨_, _, [], [], rfl, rfl, ⟨_, _, [], [], rfl, rfl, ⟨rfl, .inl rfl⟩, ⟨rfl, rfl⟩⟩, ⟨_, _, [], [], rfl, rfl, ⟨_, _, [], [], rfl, rfl, ⟨rfl, .inl rfl⟩, ⟨rfl, rfl⟩⟩, ⟨rfl, rfl⟩⟩⟩, rfl, rfl⟩⟩, rfl⟩) hk
def s5_ : LC :=
 .q [.o [.ki 8 0], .o [.m 9 0, .m 10 2, .c2 11 163 9 10, .m 12 1, .m 13 3, .c2 14 164 12 13, .s 15 (.buildSlice 3 1 (.int .i64 0) 2 [(0, .tmp 11), (1, .tmp 14)]), .c1 16 144 15, .m 8 16], .ret]
def rA_ : LF := ⟨4, 17, s5_, [.tmp 8]⟩
theorem s3_ : av_ prog Tryz.f146 rA_ := aq_
theorem dN_ (n : ByteArray) (s : List ByteArray) (o : ByteArray) (os : List ByteArray) (hs : as_ ByteArray.size s ≤ 1048576) (hos : as_ ByteArray.size os ≤ 1048576) (h : List Row) :
 aa_ prog 146 [.val (.string n), .list 0 1 (s.map az_), .val (.string o), .list 0 1 (os.map az_)] h (.val (.int .i64 (n6_ n.data.toList (bss s) o.data.toList (bss os)))) := by
 refine am_ mixed Tryz.func146 s3_ rfl rfl ?_ h
 simp (disch := omega) only [rA_, s5_, go_sem, reduceEqDiff, reduceCtorEq, ↓reduceIte]
 refine aa_.call (dc_ _ _ _) ?_
 simp (disch := omega) only [go_sem, reduceEqDiff, ↓reduceIte]
 refine aa_.call (hq_ _ _ hs hos _) ?_
 simp (disch := omega) only [go_sem, reduceEqDiff, ↓reduceIte]
 refine nH_ _ _ _ _ _ _ rfl ?_
 simp (disch := omega) only [go_sem, ↓reduceIte]
 exact at_ rfl
def iH_ (x y : ab_) : Int := if e1_ x.Job y.Job = 0 then n6_ x.Name.data.toList (bss x.Subs) y.Name.data.toList (bss y.Subs) else e1_ x.Job y.Job
def uG_ : LC :=
 .q [.o [.bx 2 74 0, .bx 3 74 1, .ki 4 0], .dops [.fa 5 0 2, .ln 6 5, .fa 7 0 3, .ln 8 7, .c2 9 145 6 8, .fa 10 2 2, .ln 11 10, .fa 12 3 2, .ln 13 12, .fa 14 2 3, .ln 15 14, .fa 16 3 3, .ln 17 16, .s 18 (.call 146 [.tmp
 11, .tmp 13, .tmp 15, .tmp 17]), .s 19 (.buildImm 3 1 (.int .i64 0) 2 [(0, .tmp 9), (1, .tmp 18)]), .c1 20 144 19, .m 4 20], .ret]
def qW_ : LF := ⟨2, 21, uG_, [.tmp 4]⟩
theorem sX_ : av_ prog Tryz.f115 qW_ := aq_
theorem eR_ (x y : ab_) (hx : ab_.sz x ≤ 1048576) (hy : ab_.sz y ≤ 1048576) (h : List Row) : aa_ prog 115 [.agg (ab_.cells x), .agg (ab_.cells y)] h (.val (.int .i64 (iH_ x y))) := by
 refine am_ mixed Tryz.func115 sX_ rfl rfl ?_ h
 simp (disch := omega) only [qW_, uG_, ab_.cells, go_sem, reduceEqDiff, Nat.reduceAdd, ↓reduceIte]
 repeat' (first
  | exact ad_ _ _
  | exact at_ rfl
  | simp (disch := omega) only [nf_, go_sem, ↓reduceIte]
  | (refine aa_.call (cv_ _ _ _) ?_)
  | (refine aa_.q (cv_ _ _ _) ?_)
  | (refine aa_.call (dN_ _ _ _ _ (ab_.sz_Subs hx) (ab_.sz_Subs hy) _) ?_)
  | (refine aa_.q (dN_ _ _ _ _ (ab_.sz_Subs hx) (ab_.sz_Subs hy) _) ?_)
  | (refine aa_.call (he_ _ _ _) ?_)
  | (refine aa_.q (he_ _ _ _) ?_)
  | ((first | (apply aD_; assumption) | (apply aE_; assumption) | (apply aL_; assumption) | (apply aJ_; assumption)); intro hb; try simp only [hb])
  | ((first | apply an_ | apply ao_) <;> intro hb <;> (try simp only [hb]) <;> (first | have hp := a4_ hb | have hp := a3_ hb | have hp := a1_ hb | have hp := aZ_ hb | skip)))
def c71 : LC :=
 .q [.o [.f 8], .q [.o [.m 10 0, .m 11 2, .bb 12 .neq false 10 11], .k 12 (.q [.o [.m 13 0, .m 14 2, .bb 15 .lss false 13 14, .m 8 15], .ret]) .skip], .q [.o [.ki 9 0], .block 0 (.loop (.q [.q [.o [.m 16 9, .m 17 1, .ll
 18 17, .bb 19 .lss false 16 18, .m 20 19, .gm 21 20 true 9, .gm 22 20 true 3, .g 23 20 true (.lenSl (.tmp 22)), .g 24 20 true (.bin .lss false (.tmp 21) (.tmp 23)), .pf 25 20 24], .k 25 .skip (.exit 0)], .block 1 (.q
 [.dops [.m 28 1, .m 29 9, .ia 30 1 28 29, .ln 31 30, .m 32 3, .m 33 9, .ia 34 1 32 33, .ln 35 34, .bb 36 .neq false 31 35], .k 36 (.q [.dops [.m 37 1, .m 38 9, .ia 39 1 37 38, .ln 40 39, .m 41 3, .m 42 9, .ia 43 1 41 42,
 .ln 44 43, .c2 45 110 40 44, .m 8 45], .ret]) .skip]), .o [.m 26 9, .bk 27 .add false 26 1, .m 9 27]]))], .o [.m 46 1, .ll 47 46, .m 48 3, .ll 49 48, .bb 50 .lss false 47 49, .m 8 50], .ret]
def p5_ : LF := ⟨4, 51, c71, [.tmp 8]⟩
theorem vh_ : av_ prog Tryz.f71 p5_ := aq_
theorem ok_ (xs ys : List ByteArray) (k : Nat) (h1 : k < xs.length) (h2 : k < ys.length) : dx_ (bss (xs.drop k)) (bss (ys.drop k)) = if xs[k] = ys[k] then dx_ (bss (xs.drop (k + 1))) (bss (ys.drop (k + 1))) else before xs[k].data.toList ys[k].data.toList := by
 rw [drop_eq_getElem_cons h1, drop_eq_getElem_cons h2]
 simp only [bss, map_cons, dx_, oR_]
theorem k3_ (xs ys : List ByteArray) (k : Nat) (h : xs.length ≤ k ∨ ys.length ≤ k) (h1 : k ≤ xs.length) (h2 : k ≤ ys.length) : dx_ (bss (xs.drop k)) (bss (ys.drop k)) = decide ((xs.length : Int) < ys.length) := by
 rcases Nat.lt_or_ge k xs.length with q | q
 ·have : ys.length ≤ k := by omega
  rw [drop_eq_getElem_cons q, drop_eq_nil_of_le this]
  show false = _; symm; rw [decide_eq_false_iff_not]; omega
 ·rw [drop_eq_nil_of_le q]
  rcases Nat.lt_or_ge k ys.length with q2 | q2
  ·rw [drop_eq_getElem_cons q2]; show true = _; symm; rw [decide_eq_true_eq]; omega
  ·rw [drop_eq_nil_of_le q2]; show false = _; symm; rw [decide_eq_false_iff_not]; omega
theorem gE_ (n : ByteArray) (s : List ByteArray) (o : ByteArray) (os : List ByteArray) (hs : as_ ByteArray.size s ≤ 1048576) (hos : as_ ByteArray.size os ≤ 1048576) (h : List Row) :
 aa_ prog 71 [.val (.string n), .list 0 1 (s.map az_), .val (.string o), .list 0 1 (os.map az_)] h (.val (.bool (gl_ n.data.toList (bss s) o.data.toList (bss os)))) := by
 refine am_ mixed Tryz.func71 vh_ rfl rfl ?_ h
 have hl1 := ar_ hs
 have hl2 := ar_ hos
 by_cases hn : n = o
 case neg =>
  have hn' : (n = o) = False := eq_false hn
  simp (disch := omega) only [p5_, c71, hn', kt_, go_sem, reduceEqDiff, reduceCtorEq, ↓reduceIte]
  exact ae_ (by unfold gl_; rw [if_neg (fun q => hn (by rwa [oR_] at q))])
 have hn' : (n = o) = True := eq_true hn
 have hL : gl_ n.data.toList (bss s) o.data.toList (bss os) = dx_ (bss s) (bss os) := by unfold gl_; rw [if_pos (by rw [hn])]
 rw [hL]
 simp (disch := omega) only [p5_, c71, hn', go_sem, reduceEqDiff, reduceCtorEq, ↓reduceIte]
 refine ay_ (fun m t h => ∃ k : Nat, t 1 = .list 0 1 (s.map az_) ∧ t 3 = .list 0 1 (os.map az_) ∧ t 9 = .val (.int .i64 k) ∧ m = s.length - k ∧ k ≤ s.length ∧ k ≤ os.length ∧ dx_ (bss s) (bss os) = dx_ (bss (s.drop k)) (bss (os.drop k))) s.length ?_ ?_
 ·exact ⟨0, rfl, rfl, rfl, rfl, Nat.zero_le _, Nat.zero_le _, rfl⟩
 ·rintro J hJ m t h ⟨k, t1, t3, t9, rfl, hk, hk2, hS⟩
  by_cases hlt : k < s.length
  ·by_cases hlt2 : k < os.length
   ·rw [ok_ s os k hlt hlt2] at hS
    by_cases e : s[k] = os[k]
    ·have e' : (s[k] = os[k]) = True := eq_true e
     simp (disch := omega) only [t1, t3, t9, hlt, hlt2, e', az_, go_sem, reduceEqDiff, ↓reduceIte]
     exact ⟨s.length - (k + 1), by omega, hJ _ _ _ ⟨k + 1, by simp [upd, t1], by simp [upd, t3], by simp [upd], rfl, by omega, by omega, by rw [hS, if_pos e]⟩⟩
    ·have e' : (s[k] = os[k]) = False := eq_false e
     simp (disch := omega) only [t1, t3, t9, hlt, hlt2, e', az_, go_sem, reduceEqDiff, ↓reduceIte]
     refine aa_.q (kw_ _ _ (fQ_ hs (getElem_mem hlt)) (fQ_ hos (getElem_mem hlt2)) _) ?_
     try simp (disch := omega) only [t1, t3, t9, go_sem, reduceEqDiff, Nat.reduceAdd, reduceLeDiff, reduceCtorEq, Int.reduceLT, Int.reduceLE, Int.reduceNeg, Int.reduceSub, Int.reduceAdd, Int.reduceToNat, ↓reduceIte]
     exact ae_ (by rw [hS, if_neg e])
   ·simp (disch := omega) only [t1, t3, t9, hlt, hlt2, go_sem, reduceEqDiff, ↓reduceIte]
    exact ae_ (by rw [hS, k3_ s os k (.inr (by omega)) hk hk2, decide_eq_decide]; omega)
  ·simp (disch := omega) only [t1, t3, t9, hlt, go_sem, reduceEqDiff, ↓reduceIte]
   exact ae_ (by rw [hS, k3_ s os k (.inl (by omega)) hk hk2, decide_eq_decide]; omega)
def qO_ : LC :=
 .q [.o [.f 4], .q [.o [.m 6 0, .ll 7 6, .m 8 1, .ll 9 8, .bb 10 .neq false 7 9], .k 10 (.q [.o [.f 4], .ret]) .skip], .q [.o [.m 11 0, .ll 12 11, .ki 13 0], .block 0 (.loop (.q [.o [.bb 14 .lss false 13 12], .k 14 .skip
 (.exit 0), .block 1 (.q [.o [.m 15 13, .m 5 15], .dops [.m 16 0, .m 17 5, .ia 18 1 16 17, .ln 19 18, .m 20 1, .m 21 5, .ia 22 1 20 21, .ln 23 22, .bb 24 .neq false 19 23], .k 24 (.q [.o [.f 4], .ret]) .skip]), .o [.bk 25
 .add false 13 1, .m 13 25]]))], .o [.t 4], .ret]
def nD_ : LF := ⟨2, 26, qO_, [.tmp 4]⟩
theorem tq_ : av_ prog Tryz.f165 nD_ := aq_
def pt_ : LC :=
 .q [.o [.f 4], .q [.o [.m 6 0, .ll 7 6, .m 8 1, .ll 9 8, .bb 10 .gtr false 7 9], .k 10 (.q [.o [.f 4], .ret]) .skip], .q [.o [.ki 5 0], .block 0 (.loop (.q [.q [.o [.m 11 5, .m 12 0, .ll 13 12, .bb 14 .lss false 11 13],
 .k 14 .skip (.exit 0)], .block 1 (.q [.dops [.m 17 0, .m 18 5, .ia 19 1 17 18, .ln 20 19, .m 21 1, .m 22 5, .ia 23 1 21 22, .ln 24 23, .bb 25 .neq false 20 24], .k 25 (.q [.o [.f 4], .ret]) .skip]), .o [.m 15 5, .bk 16
 .add false 15 1, .m 5 16]]))], .o [.t 4], .ret]
def ol_ : LF := ⟨2, 26, pt_, [.tmp 4]⟩
theorem tz_ : av_ prog Tryz.f111 ol_ := aq_
def eqS (s t : ByteArray) : Bool := decide (s = t)
def hB_ (xs ys : List ByteArray) : Bool := e8_ eqS xs ys
theorem gQ_ (xs ys : List ByteArray) (hx : xs.length ≤ 1048576) (h : List Row) : aa_ prog 165 [.list 0 1 (xs.map az_), .list 0 1 (ys.map az_)] h (.val (.bool (hB_ xs ys))) := by
 refine am_ mixed Tryz.func165 tq_ rfl rfl ?_ h
 by_cases hl : xs.length = ys.length
 ·have hl' : ((xs.length : Int) = (ys.length : Int)) = True := by simp [hl]
  simp (disch := omega) only [nD_, qO_, hl', aw_, go_sem, reduceEqDiff, reduceCtorEq, ↓reduceIte]
  refine ay_ (fun n t h => ∃ k : Nat, t 0 = .list 0 1 (xs.map az_) ∧ t 1 = .list 0 1 (ys.map az_) ∧ t 12 = .val (.int .i64 xs.length) ∧ t 13 = .val (.int .i64 k) ∧ h = [] ∧ n = xs.length - k ∧ k ≤ xs.length ∧ hB_ xs ys = e8_ eqS (xs.drop k) (ys.drop k)) xs.length ?_ ?_
  ·exact ⟨0, rfl, rfl, rfl, rfl, rfl, rfl, Nat.zero_le _, rfl⟩
  ·rintro J hJ n t h ⟨k, t0, t1, t12, t13, rfl, rfl, hk, hS⟩
   by_cases hlt : k < xs.length
   ·have hlt2 : k < ys.length := by omega
    rw [k0_ eqS xs ys k hlt hlt2] at hS
    by_cases e : xs[k] = ys[k]
    ·simp (disch := omega) only [t0, t1, t12, t13, hlt, e, aw_, go_sem, reduceEqDiff, reduceCtorEq, ↓reduceIte, aQ_]
     exact ⟨xs.length - (k + 1), by omega, hJ _ _ _ ⟨k + 1, by simp [upd, t0], by simp [upd, t1], by simp [upd, t12], by simp [upd], rfl, rfl, by omega, by rw [hS]; simp [eqS, e]⟩⟩
    ·simp (disch := omega) only [t0, t1, t12, t13, hlt, e, aw_, go_sem, reduceEqDiff, reduceCtorEq, ↓reduceIte, aQ_]
     exact ae_ (by rw [hS]; simp [eqS, e])
   ·simp (disch := omega) only [t0, t1, t12, t13, hlt, aw_, go_sem, reduceEqDiff, reduceCtorEq, ↓reduceIte, aQ_]
    exact ae_ (by rw [hS, lJ_ _ _ _ _ (by omega) (by omega)])
 ·have hl' : ((xs.length : Int) = (ys.length : Int)) = False := by simp; omega
  simp (disch := omega) only [nD_, qO_, hl', aw_, go_sem, reduceEqDiff, reduceCtorEq, ↓reduceIte]
  exact ae_ (by rw [hB_, i5_ _ _ _ hl])
def eD_ (xs ys : List ByteArray) : Bool := decide (xs.length ≤ ys.length) && e8_ eqS xs (ys.take xs.length)
theorem c6_ (xs ys : List ByteArray) (hx : xs.length ≤ 1048576) (h : List Row) : aa_ prog 111 [.list 0 1 (xs.map az_), .list 0 1 (ys.map az_)] h (.val (.bool (eD_ xs ys))) := by
 refine am_ mixed Tryz.func111 tz_ rfl rfl ?_ h
 by_cases hl : ys.length < xs.length
 ·simp (disch := omega) only [ol_, pt_, hl, aw_, go_sem, reduceEqDiff, reduceCtorEq, ↓reduceIte]
  exact ae_ (by simp [eD_]; omega)
 ·simp (disch := omega) only [ol_, pt_, hl, aw_, go_sem, reduceEqDiff, reduceCtorEq, ↓reduceIte]
  have hT : (ys.take xs.length).length = xs.length := by simp; omega
  refine ay_ (fun n t h => ∃ k : Nat, t 0 = .list 0 1 (xs.map az_) ∧ t 1 = .list 0 1 (ys.map az_) ∧ t 5 = .val (.int .i64 k) ∧ h = [] ∧ n = xs.length - k ∧ k ≤ xs.length ∧ eD_ xs ys = e8_ eqS (xs.drop k) ((ys.take xs.length).drop k)) xs.length ?_ ?_
  ·exact ⟨0, rfl, rfl, rfl, rfl, rfl, Nat.zero_le _, by simp [eD_]; omega⟩
  ·rintro J hJ n t h ⟨k, t0, t1, t5, rfl, rfl, hk, hS⟩
   by_cases hlt : k < xs.length
   ·have hlt2 : k < ys.length := by omega
    rw [k0_ eqS xs _ k hlt (by omega)] at hS
    have hg : (ys.take xs.length)[k]'(by omega) = ys[k] := by simp
    rw [hg] at hS
    by_cases e : xs[k] = ys[k]
    ·simp (disch := omega) only [t0, t1, t5, hlt, e, aw_, go_sem, reduceEqDiff, reduceCtorEq, ↓reduceIte, aQ_]
     exact ⟨xs.length - (k + 1), by omega, hJ _ _ _ ⟨k + 1, by simp [upd, t0], by simp [upd, t1], by simp [upd], rfl, rfl, by omega, by rw [hS]; simp [eqS, e]⟩⟩
    ·simp (disch := omega) only [t0, t1, t5, hlt, e, aw_, go_sem, reduceEqDiff, reduceCtorEq, ↓reduceIte, aQ_]
     exact ae_ (by rw [hS]; simp [eqS, e])
   ·simp (disch := omega) only [t0, t1, t5, hlt, aw_, go_sem, reduceEqDiff, reduceCtorEq, ↓reduceIte, aQ_]
    exact ae_ (by rw [hS, lJ_ _ _ _ _ (by omega) (by omega)])
def c4_ (b : Int) : Bool := decide (97 ≤ b) && decide (b ≤ 122) || decide (65 ≤ b) && decide (b ≤ 90)
def ez_ (b : Int) : Bool := decide (48 ≤ b) && decide (b ≤ 57)
def dA_ (s : ByteArray) : Bool := decide (1 ≤ (s.size : Int)) && decide ((s.size : Int) ≤ 24)
def sT_ : LC :=
 .q [.o [.f 2], .o [.m 3 0, .s 4 (.bin .leq false (.const (.int .u8 97)) (.tmp 3)), .m 5 4, .gm 6 5 true 0, .g 7 5 true (.bin .leq false (.tmp 6) (.const (.int .u8 122))), .pf 8 5 7, .m 9 8, .gm 10 9 false 0, .g 11 9
 false (.bin .leq false (.const (.int .u8 65)) (.tmp 10)), .gm 12 9 false 11, .gm 13 12 true 0, .g 14 12 true (.bin .leq false (.tmp 13) (.const (.int .u8 90))), .g 15 9 false (.pick (.tmp 12) (.tmp 14) (.const (.bool
 false))), .pt 16 9 15, .m 2 16], .ret]
def rc_ : LF := ⟨1, 17, sT_, [.tmp 2]⟩
theorem tT_ : av_ prog Tryz.f139 rc_ := aq_
theorem dp_ (b : Int)  (h : List Row) : aa_ prog 139 [.val (.int .u8 b)] h (.val (.bool (c4_ b))) := by
 refine am_ mixed Tryz.func139 tT_ rfl rfl ?_ h
 simp (disch := omega) only [rc_, sT_, go_sem, reduceCtorEq, ↓reduceIte]
 repeat' (first
  | exact ad_ _ _
  | (refine ae_ ?_; first | rfl | (simp only [c4_, *, Bool.true_and, Bool.and_false, Bool.false_and, Bool.true_or, Bool.false_or, decide_true, decide_false, Bool.and_self, Bool.or_self]; done) | (simp [c4_, *]; done))
  | simp (disch := omega) only [go_sem, reduceEqDiff, reduceCtorEq, ↓reduceIte]
  | ((first | (apply bd_; assumption) | (apply be_; assumption) | (apply bo_; assumption) | (apply bp_; assumption)); intro hb; try simp only [hb])
  | ((first | (apply aD_; assumption) | (apply aE_; assumption) | (apply aL_; assumption) | (apply aJ_; assumption)); intro hb; try simp only [hb])
  | ((first | apply aF_ | apply aM_ | apply an_ | apply ao_) <;> intro hb <;> (try simp only [hb]) <;> (first | have hp := a4_ hb | have hp := a3_ hb | have hp := a1_ hb | have hp := aZ_ hb | skip)))
def tk_ : LC :=
 .q [.o [.f 2], .o [.m 3 0, .s 4 (.bin .geq false (.tmp 3) (.const (.int .u8 97))), .m 5 4, .gm 6 5 true 0, .g 7 5 true (.bin .leq false (.tmp 6) (.const (.int .u8 122))), .pf 8 5 7, .m 9 8, .gm 10 9 false 0, .g 11 9
 false (.bin .geq false (.tmp 10) (.const (.int .u8 65))), .gm 12 9 false 11, .gm 13 12 true 0, .g 14 12 true (.bin .leq false (.tmp 13) (.const (.int .u8 90))), .g 15 9 false (.pick (.tmp 12) (.tmp 14) (.const (.bool
 false))), .pt 16 9 15, .m 2 16], .ret]
def rG_ : LF := ⟨1, 17, tk_, [.tmp 2]⟩
theorem ue_ : av_ prog Tryz.f155 rG_ := aq_
theorem b2_ (b : Int)  (h : List Row) : aa_ prog 155 [.val (.int .u8 b)] h (.val (.bool (c4_ b))) := by
 refine am_ mixed Tryz.func155 ue_ rfl rfl ?_ h
 simp (disch := omega) only [rG_, tk_, go_sem, reduceCtorEq, ↓reduceIte]
 repeat' (first
  | exact ad_ _ _
  | (refine ae_ ?_; first | rfl | (simp only [c4_, *, Bool.true_and, Bool.and_false, Bool.false_and, Bool.true_or, Bool.false_or, decide_true, decide_false, Bool.and_self, Bool.or_self]; done) | (simp [c4_, *]; done))
  | simp (disch := omega) only [go_sem, reduceEqDiff, reduceCtorEq, ↓reduceIte]
  | ((first | (apply bd_; assumption) | (apply be_; assumption) | (apply bo_; assumption) | (apply bp_; assumption)); intro hb; try simp only [hb])
  | ((first | (apply aD_; assumption) | (apply aE_; assumption) | (apply aL_; assumption) | (apply aJ_; assumption)); intro hb; try simp only [hb])
  | ((first | apply aF_ | apply aM_ | apply an_ | apply ao_) <;> intro hb <;> (try simp only [hb]) <;> (first | have hp := a4_ hb | have hp := a3_ hb | have hp := a1_ hb | have hp := aZ_ hb | skip)))
def u6_ : LC :=
 .q [.o [.f 2], .o [.m 3 0, .s 4 (.bin .leq false (.const (.int .u8 48)) (.tmp 3)), .m 5 4, .gm 6 5 true 0, .g 7 5 true (.bin .leq false (.tmp 6) (.const (.int .u8 57))), .pf 8 5 7, .m 2 8], .ret]
def ri_ : LF := ⟨1, 9, u6_, [.tmp 2]⟩
theorem ut_ : av_ prog Tryz.f140 ri_ := aq_
theorem dB_ (b : Int)  (h : List Row) : aa_ prog 140 [.val (.int .u8 b)] h (.val (.bool (ez_ b))) := by
 refine am_ mixed Tryz.func140 ut_ rfl rfl ?_ h
 simp (disch := omega) only [ri_, u6_, go_sem, reduceCtorEq, ↓reduceIte]
 repeat' (first
  | exact ad_ _ _
  | (refine ae_ ?_; first | rfl | (simp only [ez_, *, Bool.true_and, Bool.false_and, decide_true, decide_false]; done) | (simp [ez_, *]; done))
  | simp (disch := omega) only [go_sem, reduceEqDiff, reduceCtorEq, ↓reduceIte]
  | ((first | (apply bd_; assumption) | (apply be_; assumption) | (apply bo_; assumption) | (apply bp_; assumption)); intro hb; try simp only [hb])
  | ((first | (apply aD_; assumption) | (apply aE_; assumption) | (apply aL_; assumption) | (apply aJ_; assumption)); intro hb; try simp only [hb])
  | ((first | apply aF_ | apply aM_ | apply an_ | apply ao_) <;> intro hb <;> (try simp only [hb]) <;> (first | have hp := a4_ hb | have hp := a3_ hb | have hp := a1_ hb | have hp := aZ_ hb | skip)))
theorem c7_ (b : Int)  (h : List Row) : aa_ prog 156 [.val (.int .u8 b)] h (.val (.bool (ez_ b))) := by
 refine am_ mixed Tryz.func156 oY_ rfl rfl ?_ h
 simp (disch := omega) only [od_, ql_, go_sem, reduceCtorEq, ↓reduceIte]
 repeat' (first
  | exact ad_ _ _
  | (refine ae_ ?_; first | rfl | (simp only [ez_, *, Bool.true_and, Bool.false_and, decide_true, decide_false]; done) | (simp [ez_, *]; done))
  | simp (disch := omega) only [go_sem, reduceEqDiff, reduceCtorEq, ↓reduceIte]
  | ((first | (apply bd_; assumption) | (apply be_; assumption) | (apply bo_; assumption) | (apply bp_; assumption)); intro hb; try simp only [hb])
  | ((first | (apply aD_; assumption) | (apply aE_; assumption) | (apply aL_; assumption) | (apply aJ_; assumption)); intro hb; try simp only [hb])
  | ((first | apply aF_ | apply aM_ | apply an_ | apply ao_) <;> intro hb <;> (try simp only [hb]) <;> (first | have hp := a4_ hb | have hp := a3_ hb | have hp := a1_ hb | have hp := aZ_ hb | skip)))
def uT_ : LC :=
 .q [.o [.f 2], .o [.m 3 0, .s 4 (.lenStr (.tmp 3)), .bk 5 .geq false 4 1, .m 6 5, .gm 7 6 true 0, .g 8 6 true (.lenStr (.tmp 7)), .g 9 6 true (.bin .leq false (.tmp 8) (.const (.int .i64 24))), .pf 10 6 9, .m 2 10],
 .ret]
def rf_ : LF := ⟨1, 11, uT_, [.tmp 2]⟩
theorem uP_ : av_ prog Tryz.f143 rf_ := aq_
theorem hX_ (s : ByteArray)  (h : List Row) : aa_ prog 143 [.val (.string s)] h (.val (.bool (dA_ s))) := by
 refine am_ mixed Tryz.func143 uP_ rfl rfl ?_ h
 simp (disch := omega) only [rf_, uT_, go_sem, reduceCtorEq, ↓reduceIte]
 repeat' (first
  | exact ad_ _ _
  | (refine ae_ ?_; first | rfl | (simp only [dA_, *, Bool.true_and, Bool.false_and, decide_true, decide_false]; done) | (simp [dA_, *]; done))
  | simp (disch := omega) only [go_sem, reduceEqDiff, reduceCtorEq, ↓reduceIte]
  | ((first | (apply bd_; assumption) | (apply be_; assumption) | (apply bo_; assumption) | (apply bp_; assumption)); intro hb; try simp only [hb])
  | ((first | (apply aD_; assumption) | (apply aE_; assumption) | (apply aL_; assumption) | (apply aJ_; assumption)); intro hb; try simp only [hb])
  | ((first | apply aF_ | apply aM_ | apply an_ | apply ao_) <;> intro hb <;> (try simp only [hb]) <;> (first | have hp := a4_ hb | have hp := a3_ hb | have hp := a1_ hb | have hp := aZ_ hb | skip)))
def tX_ : LC :=
 .q [.o [.f 2], .o [.m 3 0, .s 4 (.lenStr (.tmp 3)), .bk 5 .geq false 4 1, .m 6 5, .gm 7 6 true 0, .g 8 6 true (.lenStr (.tmp 7)), .g 9 6 true (.bin .leq false (.tmp 8) (.const (.int .i64 24))), .pf 10 6 9, .m 2 10],
 .ret]
def qY_ : LF := ⟨1, 11, tX_, [.tmp 2]⟩
theorem tu_ : av_ prog Tryz.f157 qY_ := aq_
theorem d2_ (s : ByteArray)  (h : List Row) : aa_ prog 157 [.val (.string s)] h (.val (.bool (dA_ s))) := by
 refine am_ mixed Tryz.func157 tu_ rfl rfl ?_ h
 simp (disch := omega) only [qY_, tX_, go_sem, reduceCtorEq, ↓reduceIte]
 repeat' (first
  | exact ad_ _ _
  | (refine ae_ ?_; first | rfl | (simp only [dA_, *, Bool.true_and, Bool.false_and, decide_true, decide_false]; done) | (simp [dA_, *]; done))
  | simp (disch := omega) only [go_sem, reduceEqDiff, reduceCtorEq, ↓reduceIte]
  | ((first | (apply bd_; assumption) | (apply be_; assumption) | (apply bo_; assumption) | (apply bp_; assumption)); intro hb; try simp only [hb])
  | ((first | (apply aD_; assumption) | (apply aE_; assumption) | (apply aL_; assumption) | (apply aJ_; assumption)); intro hb; try simp only [hb])
  | ((first | apply aF_ | apply aM_ | apply an_ | apply ao_) <;> intro hb <;> (try simp only [hb]) <;> (first | have hp := a4_ hb | have hp := a3_ hb | have hp := a1_ hb | have hp := aZ_ hb | skip)))
def sO_ : LC :=
 .q [.o [.ki 4 0], .q [.o [.m 6 0, .ll 7 6, .ki 8 0], .block 0 (.loop (.q [.o [.bb 9 .lss false 8 7], .k 9 .skip (.exit 0), .block 1 (.q [.o [.m 10 8, .m 5 10], .o [.m 11 1, .m 12 0, .m 13 5, .ia 14 1 12 13, .ln 15 14, .s
 16 (.callv (.tmp 11) [.tmp 15])], .k 16 (.q [.o [.m 17 5, .m 4 17], .ret]) .skip]), .o [.bk 18 .add false 8 1, .m 8 18]]))], .o [.s 4 (.mov (.const (.int .i64 (-1))))], .ret]
def ra_ : LF := ⟨2, 19, sO_, [.tmp 4]⟩
theorem ul_ : av_ prog Tryz.f162 ra_ := aq_
theorem fw_ (xs : List ByteArray) (p : ByteArray → Bool) (g : Nat) (hx : xs.length ≤ 1048576) (hc : bH_ prog g = true) (hp : ∀ x ∈ xs, ∀ h, aa_ prog g [.val (.string x)] h (.val (.bool (p x)))) (h : List Row) :
 aa_ prog 162 [.list 0 1 (xs.map az_), .fn g [] []] h (.val (.int .i64 (aU_ p xs 0))) := by
 refine am_ mixed Tryz.func162 ul_ rfl rfl ?_ h
 simp (disch := omega) only [ra_, sO_, go_sem, reduceCtorEq, Int.reduceNeg, ↓reduceIte]
 refine ay_ (fun n t h => ∃ k : Nat, t 0 = .list 0 1 (xs.map az_) ∧ t 1 = .fn g [] [] ∧ t 6 = .list 0 1 (xs.map az_) ∧ t 7 = .val (.int .i64 xs.length) ∧ t 8 = .val (.int .i64 k) ∧ n = xs.length - k ∧ k ≤ xs.length ∧ (aU_ p xs 0 = aU_ p (xs.drop k) k)) (xs.length) ?_ ?_
 ·exact ⟨0, rfl, rfl, rfl, rfl, rfl, rfl, Nat.zero_le _, rfl⟩
 ·rintro J hJ n t h ⟨k, t0, t1, t6, t7, k8, rfl, hk, hS⟩
  by_cases hlt : k < xs.length
  ·skip
   rw [cC_ p xs k hlt] at hS
   simp (disch := omega) only [t0, t1, t7, k8, hlt, hc, az_, go_sem, reduceEqDiff, reduceCtorEq, Int.reduceNeg, ↓reduceIte]
   repeat' (first
    | exact ad_ _ _
    | exact ⟨xs.length - (k + 1), by omega, hJ _ _ _ ⟨k + 1, by simp [upd, t0], by simp [upd, t1], by simp [upd, t6], by simp [upd, t7], by simp [upd], rfl, by omega, by rw [hS]; simp [*]⟩⟩
    | (refine at_ ?_; rw [hS]; simp [*]; done)
    | (refine at_ ?_; rw [hS, bB_ _ _ _ (by omega)])
    | simp (disch := omega) only [k8, go_sem, reduceEqDiff, Int.reduceNeg, ↓reduceIte]
    | (refine aa_.call (hp xs[k] (getElem_mem hlt) _) ?_)
    | (refine aa_.q (hp xs[k] (getElem_mem hlt) _) ?_)
    | ((first | (apply aD_; assumption) | (apply aE_; assumption) | (apply aL_; assumption) | (apply aJ_; assumption)); intro hb; try simp only [hb])
    | ((first | apply an_ | apply ao_) <;> intro hb <;> (try simp only [hb]) <;> (first | have hp := a4_ hb | have hp := a3_ hb | have hp := a1_ hb | have hp := aZ_ hb | skip)))
  ·skip
   simp (disch := omega) only [t7, k8, hlt, go_sem, Int.reduceNeg, ↓reduceIte]
   repeat' (first
    | exact ad_ _ _
    | (refine at_ ?_; rw [hS]; simp [*]; done)
    | (refine at_ ?_; rw [hS, bB_ _ _ _ (by omega)])
    | simp (disch := omega) only [t0, t1, t6, t7, k8, go_sem, reduceEqDiff, Nat.reduceAdd, reduceLeDiff, reduceCtorEq, Int.reduceLT, Int.reduceLE, Int.reduceNeg, Int.reduceSub, Int.reduceAdd, Int.reduceToNat, ↓reduceIte]
    | (refine aa_.call (hp xs[k] (getElem_mem hlt) _) ?_)
    | (refine aa_.q (hp xs[k] (getElem_mem hlt) _) ?_)
    | ((first | (apply aD_; assumption) | (apply aE_; assumption) | (apply aL_; assumption) | (apply aJ_; assumption)); intro hb; try simp only [hb])
    | ((first | apply an_ | apply ao_) <;> intro hb <;> (try simp only [hb]) <;> (first | have hp := a4_ hb | have hp := a3_ hb | have hp := a1_ hb | have hp := aZ_ hb | skip)))
def ur_ : LC :=
 .q [.o [.f 4], .o [.m 5 0, .m 6 1, .c2 7 162 5 6, .bk 8 .geq false 7 0, .m 4 8], .ret]
def rw_ : LF := ⟨2, 9, ur_, [.tmp 4]⟩
theorem td_ : av_ prog Tryz.f141 rw_ := aq_
theorem c5_ (xs : List ByteArray) (p : ByteArray → Bool) (g : Nat) (hx : xs.length ≤ 1048576) (hc : bH_ prog g = true) (hp : ∀ x ∈ xs, ∀ h, aa_ prog g [.val (.string x)] h (.val (.bool (p x)))) (h : List Row) :
 aa_ prog 141 [.list 0 1 (xs.map az_), .fn g [] []] h (.val (.bool (xs.any p))) := by
 refine am_ mixed Tryz.func141 td_ rfl rfl ?_ h
 simp (disch := omega) only [rw_, ur_, go_sem, reduceEqDiff, reduceCtorEq, ↓reduceIte]
 refine aa_.call (fw_ xs p g hx hc hp _) ?_
 simp (disch := omega) only [go_sem, ↓reduceIte]
 exact ae_ (fk_ p xs)
def eb_ (xs : List ByteArray) : Bool := decide ((xs.length : Int) ≤ 4) && xs.all dA_
def tY_ : LC :=
 .q [.o [.f 2], .o [.m 3 0, .c1 4 143 3, .nt 5 4, .m 2 5], .ret]
def q3_ : LF := ⟨1, 6, tY_, [.tmp 2]⟩
theorem u5_ : av_ prog Tryz.f142 q3_ := aq_
theorem fB_ (s : ByteArray)  (h : List Row) : aa_ prog 142 [.val (.string s)] h (.val (.bool (!dA_ s))) := by
 refine am_ mixed Tryz.func142 u5_ rfl rfl ?_ h
 simp (disch := omega) only [q3_, tY_, go_sem, reduceCtorEq, ↓reduceIte]
 repeat' (first
  | exact ad_ _ _
  | simp (disch := omega) only [go_sem, ↓reduceIte]
  | (refine aa_.call (hX_ _ _) ?_)
  | (refine aa_.q (hX_ _ _) ?_)
  | ((first | (apply aD_; assumption) | (apply aE_; assumption) | (apply aL_; assumption) | (apply aJ_; assumption)); intro hb; try simp only [hb])
  | ((first | apply an_ | apply ao_) <;> intro hb <;> (try simp only [hb]) <;> (first | have hp := a4_ hb | have hp := a3_ hb | have hp := a1_ hb | have hp := aZ_ hb | skip)))
theorem sz_ {α : Type} (p : α → Bool) (xs : List α) : (!xs.any fun x => !p x) = xs.all p := by
 induction xs with
 | nil => rfl
 | cons x xs ih => simp only [any_cons, all_cons, Bool.not_or, Bool.not_not, ih]
def uw_ : LC :=
 .q [.o [.f 2], .o [.m 3 0, .ll 4 3, .bk 5 .leq false 4 4, .m 6 5, .gm 7 6 true 0, .g 8 6 true (.call 141 [.tmp 7, .func 142]), .gu 9 6 true 8, .pf 10 6 9, .m 2 10], .ret]
def qX_ : LF := ⟨1, 11, uw_, [.tmp 2]⟩
theorem ui_ : av_ prog Tryz.f114 qX_ := aq_
theorem hc_ (xs : List ByteArray) (hx : xs.length ≤ 1048576) (h : List Row) : aa_ prog 114 [.list 0 1 (xs.map az_)] h (.val (.bool (eb_ xs))) := by
 refine am_ mixed Tryz.func114 ui_ rfl rfl ?_ h
 simp (disch := omega) only [qX_, uw_, go_sem, reduceCtorEq, ↓reduceIte]
 repeat' (first
  | exact ad_ _ _
  | (refine ae_ ?_; simp only [sz_, eb_, *, Bool.true_and, Bool.false_and, decide_true, decide_false]; done)
  | (refine ae_ ?_; first | rfl | (simp only [eb_, *, Bool.and_true, Bool.true_and, Bool.and_false, Bool.false_and, Bool.or_true, Bool.true_or, Bool.or_false, Bool.false_or, Bool.not_true, Bool.not_false, decide_true, decide_false, Bool.and_self, Bool.or_self]; done) | (simp [eb_, *]; done))
  | simp (disch := omega) only [go_sem, reduceEqDiff, reduceCtorEq, ↓reduceIte]
  | (refine aa_.call (c5_ _ (fun s => !dA_ s) 142 hx (by kernel_rfl) (fun x _ h => fB_ x h) _) ?_)
  | (refine aa_.q (c5_ _ (fun s => !dA_ s) 142 hx (by kernel_rfl) (fun x _ h => fB_ x h) _) ?_)
  | ((first | (apply bd_; assumption) | (apply be_; assumption) | (apply bo_; assumption) | (apply bp_; assumption)); intro hb; try simp only [hb])
  | ((first | (apply aD_; assumption) | (apply aE_; assumption) | (apply aL_; assumption) | (apply aJ_; assumption)); intro hb; try simp only [hb])
  | ((first | apply aF_ | apply aM_ | apply an_ | apply ao_) <;> intro hb <;> (try simp only [hb]) <;> (first | have hp := a4_ hb | have hp := a3_ hb | have hp := a1_ hb | have hp := aZ_ hb | skip)))
def pv_ : LC :=
 .q [.o [.f 2], .q [.o [.m 4 0, .ll 5 4, .bk 6 .gtr false 5 4], .k 6 (.q [.o [.f 2], .ret]) .skip], .q [.o [.ki 3 0], .block 0 (.loop (.q [.q [.o [.m 7 3, .m 8 0, .ll 9 8, .bb 10 .lss false 7 9], .k 10 .skip (.exit 0)],
 .block 1 (.q [.o [.m 13 0, .m 14 3, .ia 15 1 13 14, .ln 16 15, .c1 17 157 16, .nt 18 17], .k 18 (.q [.o [.f 2], .ret]) .skip]), .o [.m 11 3, .bk 12 .add false 11 1, .m 3 12]]))], .o [.t 2], .ret]
def oe_ : LF := ⟨1, 19, pv_, [.tmp 2]⟩
theorem t0_ : av_ prog Tryz.f134 oe_ := aq_
theorem gz_ (xs : List ByteArray) (hx : xs.length ≤ 1048576) (h : List Row) : aa_ prog 134 [.list 0 1 (xs.map az_)] h (.val (.bool (eb_ xs))) := by
 refine am_ mixed Tryz.func134 t0_ rfl rfl ?_ h
 by_cases h4 : (xs.length : Int) ≤ 4
 ·have h4' : ((4 : Int) < xs.length) = False := by simp; omega
  have hS0 : eb_ xs = xs.all dA_ := by simp [eb_, h4]
  simp (disch := omega) only [oe_, pv_, h4', go_sem, reduceCtorEq, ↓reduceIte]
  refine ay_ (fun n t h => ∃ k : Nat, t 0 = .list 0 1 (xs.map az_) ∧ t 3 = .val (.int .i64 k) ∧ n = xs.length - k ∧ k ≤ xs.length ∧ (xs.all dA_ = (xs.drop k).all dA_)) (xs.length) ?_ ?_
  ·exact ⟨0, rfl, rfl, rfl, Nat.zero_le _, rfl⟩
  ·rintro J hJ n t h ⟨k, t0, k3, rfl, hk, hS⟩
   by_cases hlt : k < xs.length
   ·skip
    rw [pE_ dA_ xs k hlt] at hS
    simp (disch := omega) only [t0, k3, hlt, az_, go_sem, reduceEqDiff, reduceCtorEq, ↓reduceIte]
    repeat' (first
     | exact ad_ _ _
     | exact ⟨xs.length - (k + 1), by omega, hJ _ _ _ ⟨k + 1, by simp [upd, t0], by simp [upd], rfl, by omega, by rw [hS]; first | (simp only [*, Bool.true_and]; done) | simp [*]⟩⟩
     | (refine ae_ ?_; rw [hS0, hS]; first | (simp only [*, Bool.false_and]; done) | (simp [*]; done))
     | (refine ae_ ?_; rw [hS0, hS, ni_ _ _ _ (by omega)])
     | simp (disch := omega) only [k3, go_sem, reduceEqDiff, ↓reduceIte]
     | (refine aa_.call (d2_ _ _) ?_)
     | (refine aa_.q (d2_ _ _) ?_)
     | ((first | (apply aD_; assumption) | (apply aE_; assumption) | (apply aL_; assumption) | (apply aJ_; assumption)); intro hb; try simp only [hb])
     | ((first | apply an_ | apply ao_) <;> intro hb <;> (try simp only [hb]) <;> (first | have hp := a4_ hb | have hp := a3_ hb | have hp := a1_ hb | have hp := aZ_ hb | skip)))
   ·skip
    simp (disch := omega) only [t0, k3, hlt, go_sem, reduceEqDiff, reduceCtorEq, ↓reduceIte]
    repeat' (first
     | exact ad_ _ _
     | (refine ae_ ?_; rw [hS0, hS]; first | (simp only [*, Bool.and_true, Bool.true_and, Bool.and_false, Bool.false_and, Bool.or_true, Bool.true_or, Bool.or_false, Bool.false_or, Bool.not_true, Bool.not_false, decide_true, decide_false, Bool.and_self, Bool.or_self]; done) | (simp [*]; done))
     | (refine ae_ ?_; rw [hS0, hS, ni_ _ _ _ (by omega)])
     | simp (disch := omega) only [t0, k3, go_sem, reduceEqDiff, Nat.reduceAdd, reduceLeDiff, reduceCtorEq, Int.reduceLT, Int.reduceLE, Int.reduceNeg, Int.reduceSub, Int.reduceAdd, Int.reduceToNat, ↓reduceIte]
     | (refine aa_.call (d2_ _ _) ?_)
     | (refine aa_.q (d2_ _ _) ?_)
     | ((first | (apply aD_; assumption) | (apply aE_; assumption) | (apply aL_; assumption) | (apply aJ_; assumption)); intro hb; try simp only [hb])
     | ((first | apply an_ | apply ao_) <;> intro hb <;> (try simp only [hb]) <;> (first | have hp := a4_ hb | have hp := a3_ hb | have hp := a1_ hb | have hp := aZ_ hb | skip)))
 ·have h4' : ((4 : Int) < xs.length) = True := by simp; omega
  simp (disch := omega) only [oe_, pv_, h4', go_sem, reduceCtorEq, ↓reduceIte]
  exact ae_ (by simp [eb_, h4])
def c88 : LC :=
 .q [.o [.f 2], .o [.m 3 0, .c1 4 134 3, .m 2 4], .ret]
def tp_ : LF := ⟨1, 5, c88, [.tmp 2]⟩
theorem vp_ : av_ prog Tryz.f88 tp_ := aq_
theorem gX_ (xs : List ByteArray) (hx : xs.length ≤ 1048576) (h : List Row) : aa_ prog 88 [.list 0 1 (xs.map az_)] h (.val (.bool (eb_ xs))) := by
 refine am_ mixed Tryz.func88 vp_ rfl rfl ?_ h
 simp (disch := omega) only [tp_, c88, go_sem, reduceCtorEq, ↓reduceIte]
 repeat' (first
  | exact ad_ _ _
  | simp (disch := omega) only [go_sem, ↓reduceIte]
  | (refine aa_.call (gz_ _ hx _) ?_)
  | (refine aa_.q (gz_ _ hx _) ?_)
  | ((first | (apply aD_; assumption) | (apply aE_; assumption) | (apply aL_; assumption) | (apply aJ_; assumption)); intro hb; try simp only [hb])
  | ((first | apply an_ | apply ao_) <;> intro hb <;> (try simp only [hb]) <;> (first | have hp := a4_ hb | have hp := a3_ hb | have hp := a1_ hb | have hp := aZ_ hb | skip)))
def cB_ : List Int → Nat → Bool
 | [], _ => true
 | b :: bs, k => (c4_ b || (decide (k = 0) && decide (b = 37)) || (!decide (k = 0) && ez_ b)) && cB_ bs (k + 1)
def cF_ (s : ByteArray) : Bool := decide (1 ≤ (s.size : Int)) && decide ((s.size : Int) ≤ 8) && cB_ (c2_ s) 0
theorem el_ (bs : List Int) (k : Nat) (h : k < bs.length) : cB_ (bs.drop k) k = ((c4_ bs[k] || (decide (k = 0) && decide (bs[k] = 37)) || (!decide (k = 0) && ez_ bs[k])) && cB_ (bs.drop (k + 1)) (k + 1)) := by
 rw [drop_eq_getElem_cons h]; rfl
theorem eQ_ (bs : List Int) (k : Nat) (h : bs.length ≤ k) : cB_ (bs.drop k) k = true := by
 rw [drop_eq_nil_of_le h]; rfl
def sL_ : LC :=
 .q [.o [.f 2], .q [.o [.ki 3 0], .block 0 (.loop (.q [.q [.o [.m 5 3, .m 6 0, .s 7 (.lenStr (.tmp 6)), .bb 8 .lss false 5 7], .k 8 .skip (.exit 0)], .block 1 (.q [.o [.m 11 0, .m 12 3, .s 13 (.indexStr (.tmp 11) (.tmp
 12)), .c1 14 139 13, .m 15 14, .gm 16 15 false 3, .g 17 15 false (.bin .eql false (.tmp 16) (.const (.int .i64 0))), .gm 18 15 false 17, .gm 19 18 true 0, .gm 20 18 true 3, .g 21 18 true (.indexStr (.tmp 19) (.tmp 20)),
 .g 22 18 true (.bin .eql false (.tmp 21) (.const (.int .u8 37))), .g 23 15 false (.pick (.tmp 18) (.tmp 22) (.const (.bool false))), .pt 24 15 23, .m 4 24], .o [.m 25 4, .nt 26 25, .m 27 26, .gm 28 27 true 3, .g 29 27
 true (.bin .eql false (.tmp 28) (.const (.int .i64 0))), .gm 30 27 true 29, .gm 31 30 false 0, .gm 32 30 false 3, .g 33 30 false (.indexStr (.tmp 31) (.tmp 32)), .gc 34 30 false 140 33, .gu 35 30 false 34, .g 36 27 true
 (.pick (.tmp 30) (.const (.bool true)) (.tmp 35)), .pf 37 27 36], .k 37 (.q [.o [.f 2], .ret]) .skip]), .o [.m 9 3, .bk 10 .add false 9 1, .m 3 10]]))], .o [.m 38 0, .s 39 (.lenStr (.tmp 38)), .bk 40 .geq false 39 1, .m
 41 40, .gm 42 41 true 0, .g 43 41 true (.lenStr (.tmp 42)), .g 44 41 true (.bin .leq false (.tmp 43) (.const (.int .i64 8))), .pf 45 41 44, .m 2 45], .ret]
def q8_ : LF := ⟨1, 46, sL_, [.tmp 2]⟩
theorem t9_ : av_ prog Tryz.f113 q8_ := aq_
theorem g9_ (s : ByteArray) (hs : s.size ≤ 1048576) (h : List Row) : aa_ prog 113 [.val (.string s)] h (.val (.bool (cF_ s))) := by
 refine am_ mixed Tryz.func113 t9_ rfl rfl ?_ h
 have hl := ce_ s
 simp (disch := omega) only [q8_, sL_, go_sem]
 refine ay_ (fun n t h => ∃ k : Nat, t 0 = .val (.string s) ∧ t 3 = .val (.int .i64 k) ∧ n = s.size - k ∧ k ≤ s.size ∧ (cB_ (c2_ s) 0 = cB_ ((c2_ s).drop k) k)) (s.size) ?_ ?_
 ·exact ⟨0, rfl, rfl, rfl, Nat.zero_le _, rfl⟩
 ·rintro J hJ n t h ⟨k, t0, k3, rfl, hk, hS⟩
  by_cases hlt : k < s.size
  ·skip
   rw [el_ (c2_ s) k (by omega)] at hS
   simp (disch := omega) only [t0, k3, hlt, go_sem, reduceEqDiff, reduceCtorEq, ↓reduceIte]
   repeat' (first
    | exact ad_ _ _
    | exact ⟨s.size - (k + 1), by omega, hJ _ _ _ ⟨k + 1, by simp [upd, t0], by simp [upd], rfl, by omega, by rw [hS]; first | (simp only [*, Bool.true_and, Bool.false_and, Bool.or_true, Bool.true_or, Bool.or_false, Bool.not_true, Bool.not_false, Bool.and_self, Bool.or_self]; done) | simp [*]⟩⟩
    | (refine ae_ ?_; simp only [cF_]; rw [hS]; first | (simp only [*, Bool.and_false, Bool.false_and, Bool.not_true, Bool.not_false, Bool.or_self]; done) | (simp [*]; done))
    | (refine ae_ ?_; rw [eQ_ _ _ (by omega)] at hS; simp only [cF_]; rw [hS]; first | (simp only [*, Bool.and_true, Bool.true_and, Bool.and_false, Bool.false_and, Bool.or_true, Bool.true_or, Bool.or_false, Bool.false_or, Bool.not_true, Bool.not_false, decide_true, decide_false, Bool.and_self, Bool.or_self]; done) | (simp [*]; done))
    | simp (disch := omega) only [t0, k3, go_sem, reduceEqDiff, reduceCtorEq, ↓reduceIte]
    | (refine aa_.call (dp_ _ _) ?_)
    | (refine aa_.q (dp_ _ _) ?_)
    | (refine aa_.call (dB_ _ _) ?_)
    | (refine aa_.q (dB_ _ _) ?_)
    | ((first | (apply bd_; assumption) | (apply be_; assumption) | (apply bo_; assumption) | (apply bp_; assumption)); intro hb; try simp only [hb])
    | ((first | (apply aD_; assumption) | (apply aE_; assumption) | (apply aL_; assumption) | (apply aJ_; assumption)); intro hb; try simp only [hb])
    | ((first | apply aF_ | apply aM_ | apply an_ | apply ao_) <;> intro hb <;> (try simp only [hb]) <;> (first | have hp := a4_ hb | have hp := a3_ hb | have hp := a1_ hb | have hp := aZ_ hb | skip)))
  ·skip
   simp (disch := omega) only [t0, k3, hlt, go_sem, reduceEqDiff, reduceCtorEq, ↓reduceIte]
   repeat' (first
    | exact ad_ _ _
    | (refine ae_ ?_; simp only [cF_]; rw [hS]; first | (simp only [*, Bool.true_and, Bool.false_and, decide_true, decide_false]; done) | (simp [*]; done))
    | (refine ae_ ?_; rw [eQ_ _ _ (by omega)] at hS; simp only [cF_]; rw [hS]; first | (simp only [*, Bool.and_true, Bool.true_and, decide_true]; done) | (simp [*]; done))
    | simp (disch := omega) only [t0, go_sem, reduceEqDiff, reduceCtorEq, ↓reduceIte]
    | (refine aa_.call (dp_ _ _) ?_)
    | (refine aa_.q (dp_ _ _) ?_)
    | (refine aa_.call (dB_ _ _) ?_)
    | (refine aa_.q (dB_ _ _) ?_)
    | ((first | (apply bd_; assumption) | (apply be_; assumption) | (apply bo_; assumption) | (apply bp_; assumption)); intro hb; try simp only [hb])
    | ((first | (apply aD_; assumption) | (apply aE_; assumption) | (apply aL_; assumption) | (apply aJ_; assumption)); intro hb; try simp only [hb])
    | ((first | apply aF_ | apply aM_ | apply an_ | apply ao_) <;> intro hb <;> (try simp only [hb]) <;> (first | have hp := a4_ hb | have hp := a3_ hb | have hp := a1_ hb | have hp := aZ_ hb | skip)))
theorem og_ {s : ByteArray} (h3 : 0 < s.size) (h4 : c4_ ((c2_ s)[0]'(by rw [ce_]; exact h3)) = false) (h5 : decide (((c2_ s)[0]'(by rw [ce_]; exact h3)) = 37) = false) : cF_ s = false := by
 have h6 := el_ (c2_ s) 0 (by rw [ce_]; exact h3)
 rw [drop_zero] at h6
 simp only [cF_, h6, h4, h5]; simp
theorem lG_ {s : ByteArray} (h1 : decide ((s.size : Int) < 1) = false) (h2 : decide (8 < (s.size : Int)) = false) (h3 : 0 < s.size) (h4 : c4_ ((c2_ s)[0]'(by rw [ce_]; exact h3)) = true ∨ ((c2_ s)[0]'(by rw [ce_]; exact h3)) = 37) : cF_ s = cB_ ((c2_ s).drop 1) 1 := by
 have h5 := el_ (c2_ s) 0 (by rw [ce_]; exact h3)
 rw [drop_zero] at h5
 have h6 := of_decide_eq_false h1
 have h7 := of_decide_eq_false h2
 have e1 : decide (1 ≤ (s.size : Int)) = true := by simp; omega
 have e2 : decide ((s.size : Int) ≤ 8) = true := by simp; omega
 simp only [cF_, e1, e2, h5, Bool.true_and]
 rcases h4 with h4 | h4 <;> simp [h4]
def om_ : LC :=
 .q [.o [.f 2], .q [.o [.m 4 0, .s 5 (.lenStr (.tmp 4)), .bk 6 .lss false 5 1, .m 7 6, .gm 8 7 false 0, .g 9 7 false (.lenStr (.tmp 8)), .g 10 7 false (.bin .gtr false (.tmp 9) (.const (.int .i64 8))), .pt 11 7 10, .m 12
 11, .gm 13 12 false 0, .g 14 12 false (.indexStr (.tmp 13) (.const (.int .i64 0))), .gc 15 12 false 155 14, .gu 16 12 false 15, .gm 17 12 false 16, .gm 18 17 true 0, .g 19 17 true (.indexStr (.tmp 18) (.const (.int .i64
 0))), .g 20 17 true (.bin .neq false (.tmp 19) (.const (.int .u8 37))), .g 21 12 false (.pick (.tmp 17) (.tmp 20) (.const (.bool false))), .pt 22 12 21], .k 22 (.q [.o [.f 2], .ret]) .skip], .q [.o [.ki 3 1], .block 0
 (.loop (.q [.q [.o [.m 23 3, .m 24 0, .s 25 (.lenStr (.tmp 24)), .bb 26 .lss false 23 25], .k 26 .skip (.exit 0)], .block 1 (.q [.o [.m 29 0, .m 30 3, .s 31 (.indexStr (.tmp 29) (.tmp 30)), .c1 32 155 31, .nt 33 32, .m
 34 33, .gm 35 34 true 0, .gm 36 34 true 3, .g 37 34 true (.indexStr (.tmp 35) (.tmp 36)), .gc 38 34 true 156 37, .gu 39 34 true 38, .pf 40 34 39], .k 40 (.q [.o [.f 2], .ret]) .skip]), .o [.m 27 3, .bk 28 .add false 27
 1, .m 3 28]]))], .o [.t 2], .ret]
def lD_ : LF := ⟨1, 41, om_, [.tmp 2]⟩
theorem s0_ : av_ prog Tryz.f133 lD_ := aq_
theorem gk_ (s : ByteArray) (hs : s.size ≤ 1048576) (h : List Row) : aa_ prog 133 [.val (.string s)] h (.val (.bool (cF_ s))) := by
 refine am_ mixed Tryz.func133 s0_ rfl rfl ?_ h
 have hl := ce_ s
 by_cases h0 : (s.size : Int) < 1
 ·simp (disch := omega) only [lD_, om_, h0, go_sem, reduceEqDiff, reduceCtorEq, ↓reduceIte]
  exact ae_ (by simp [cF_, show ¬ (1 ≤ (s.size : Int)) by omega])
 by_cases h8 : 8 < (s.size : Int)
 ·simp (disch := omega) only [lD_, om_, h0, h8, go_sem, reduceEqDiff, reduceCtorEq, ↓reduceIte]
  exact ae_ (by simp [cF_, show ¬ ((s.size : Int) ≤ 8) by omega])
 have hpos : 0 < s.size := by omega
 have hle : (c2_ s)[0]? = some ((c2_ s)[0]'(by omega)) := getElem?_eq_getElem (by omega)
 simp (disch := omega) only [lD_, om_, h0, h8, go_sem, reduceEqDiff, reduceCtorEq, Int.reduceLE, ↓reduceIte]
 repeat' (first
  | exact ad_ _ _
  | (refine ae_ ?_; apply Eq.symm; apply og_ hpos <;> assumption)
  | (
   have hS0 : cF_ s = cB_ ((c2_ s).drop 1) 1 := lG_ (by simp; omega) (by simp; omega) hpos (by simp_all)
   refine ay_ (fun n t h => ∃ k : Nat, t 0 = .val (.string s) ∧ t 3 = .val (.int .i64 k) ∧ n = s.size - k ∧ k ≤ s.size ∧ (cB_ ((c2_ s).drop 1) 1 = cB_ ((c2_ s).drop k) k ∧ 1 ≤ k)) (s.size - 1) ?_ ?_
   ·exact ⟨1, rfl, rfl, rfl, by omega, ⟨rfl, Nat.le_refl _⟩⟩
   ·rintro J hJ n t h ⟨k, t0, k3, rfl, hk, hS⟩
    by_cases hlt : k < s.size
    ·skip
     obtain ⟨hS, hk1⟩ := hS
     rw [el_ (c2_ s) k (by omega)] at hS
     have hk0 : decide (k = 0) = false := by simp; omega
     simp only [hk0, Bool.false_and, Bool.or_false, Bool.not_false, Bool.true_and] at hS
     simp (disch := omega) only [t0, k3, hlt, go_sem, reduceEqDiff, reduceCtorEq, ↓reduceIte]
     repeat' (first
      | exact ad_ _ _
      | exact ⟨s.size - (k + 1), by omega, hJ _ _ _ ⟨k + 1, by simp [upd, t0], by simp [upd], rfl, by omega, by refine ⟨?_, by omega⟩; rw [hS]; first | (simp only [*, Bool.true_and, Bool.or_true, Bool.true_or]; done) | simp [*]⟩⟩
      | (refine ae_ ?_; rw [hS0, hS]; first | (simp only [*, Bool.false_and, Bool.or_self]; done) | (simp [*]; done))
      | (refine ae_ ?_; rw [hS0, hS.1, eQ_ _ _ (by omega)])
      | simp (disch := omega) only [t0, k3, go_sem, reduceEqDiff, reduceCtorEq, ↓reduceIte]
      | (refine aa_.call (b2_ _ _) ?_)
      | (refine aa_.q (b2_ _ _) ?_)
      | (refine aa_.call (c7_ _ _) ?_)
      | (refine aa_.q (c7_ _ _) ?_)
      | ((first | (apply bd_; assumption) | (apply be_; assumption) | (apply bo_; assumption) | (apply bp_; assumption)); intro hb; try simp only [hb])
      | ((first | (apply aD_; assumption) | (apply aE_; assumption) | (apply aL_; assumption) | (apply aJ_; assumption)); intro hb; try simp only [hb])
      | ((first | apply aF_ | apply aM_ | apply an_ | apply ao_) <;> intro hb <;> (try simp only [hb]) <;> (first | have hp := a4_ hb | have hp := a3_ hb | have hp := a1_ hb | have hp := aZ_ hb | skip)))
    ·skip
     simp (disch := omega) only [t0, k3, hlt, go_sem, reduceEqDiff, reduceCtorEq, ↓reduceIte]
     repeat' (first
      | exact ad_ _ _
      | (refine ae_ ?_; rw [hS0, hS]; first | (simp only [*, Bool.and_true, Bool.true_and, Bool.and_false, Bool.false_and, Bool.or_true, Bool.true_or, Bool.or_false, Bool.false_or, Bool.not_true, Bool.not_false, decide_true, decide_false, Bool.and_self, Bool.or_self]; done) | (simp [*]; done))
      | (refine ae_ ?_; rw [hS0, hS.1, eQ_ _ _ (by omega)])
      | simp (disch := omega) only [t0, k3, go_sem, reduceEqDiff, Nat.reduceAdd, reduceLeDiff, reduceCtorEq, Int.reduceLT, Int.reduceLE, Int.reduceNeg, Int.reduceSub, Int.reduceAdd, Int.reduceToNat, ↓reduceIte]
      | (refine aa_.call (b2_ _ _) ?_)
      | (refine aa_.q (b2_ _ _) ?_)
      | (refine aa_.call (c7_ _ _) ?_)
      | (refine aa_.q (c7_ _ _) ?_)
      | ((first | (apply bd_; assumption) | (apply be_; assumption) | (apply bo_; assumption) | (apply bp_; assumption)); intro hb; try simp only [hb])
      | ((first | (apply aD_; assumption) | (apply aE_; assumption) | (apply aL_; assumption) | (apply aJ_; assumption)); intro hb; try simp only [hb])
      | ((first | apply aF_ | apply aM_ | apply an_ | apply ao_) <;> intro hb <;> (try simp only [hb]) <;> (first | have hp := a4_ hb | have hp := a3_ hb | have hp := a1_ hb | have hp := aZ_ hb | skip))))
  | simp (disch := omega) only [go_sem, reduceEqDiff, reduceCtorEq, Int.reduceLE, ↓reduceIte]
  | (refine aa_.call (b2_ _ _) ?_)
  | (refine aa_.q (b2_ _ _) ?_)
  | ((first | (apply bd_; assumption) | (apply be_; assumption) | (apply bo_; assumption) | (apply bp_; assumption)); intro hb; try simp only [hb])
  | ((first | (apply aD_; assumption) | (apply aE_; assumption) | (apply aL_; assumption) | (apply aJ_; assumption)); intro hb; try simp only [hb])
  | ((first | apply aF_ | apply aM_ | apply an_ | apply ao_) <;> intro hb <;> (try simp only [hb]) <;> (first | have hp := a4_ hb | have hp := a3_ hb | have hp := a1_ hb | have hp := aZ_ hb | skip)))
theorem kY_ {α β : Type} (f : α → β) (xs : List α) (n : Nat) : List.take n (List.map f xs) = List.map f (List.take n xs) := map_take.symm
theorem qg_ (a b : ByteArray) : eqS a b = eqS b a := by simp only [eqS]; by_cases h : a = b <;> simp [h]; exact fun e => h e.symm
theorem kV_ {α : Type} (p : α → α → Bool) (hp : ∀ a b, p a b = p b a) : ∀ xs ys : List α, e8_ p xs ys = e8_ p ys xs
 | [], [] => rfl
 | [], _ :: _ => rfl
 | _ :: _, [] => rfl
 | x :: xs, y :: ys => by simp only [e8_, hp x y, kV_ p hp xs ys]
def qM_ : LC :=
 .q [.o [.f 4], .o [.m 5 0, .ll 6 5, .m 7 1, .ll 8 7, .bb 9 .geq false 6 8, .m 10 9, .gm 11 10 true 0, .gm 12 10 true 1, .g 13 10 true (.lenSl (.tmp 12)), .g 14 10 true (.sliceSl 1 (.tmp 11) none (some (.tmp 13))), .gm 15
 10 true 1, .g 16 10 true (.call 165 [.tmp 14, .tmp 15]), .pf 17 10 16, .m 4 17], .ret]
def oq_ : LF := ⟨2, 18, qM_, [.tmp 4]⟩
theorem tn_ : av_ prog Tryz.f147 oq_ := aq_
theorem dY_ (a b : List ByteArray) (ha : a.length ≤ 1048576) (h : List Row) : aa_ prog 147 [.list 0 1 (a.map az_), .list 0 1 (b.map az_)] h (.val (.bool (eD_ b a))) := by
 refine am_ mixed Tryz.func147 tn_ rfl rfl ?_ h
 by_cases hl : b.length ≤ a.length
 ·have hl' : ((b.length : Int) ≤ (a.length : Int)) := by omega
  simp (disch := omega) only [oq_, qM_, hl', hl, bs_, kY_, go_sem, reduceEqDiff, reduceCtorEq, ↓reduceIte]
  refine aa_.call (gQ_ (a.take b.length) b (by rw [length_take]; omega) _) ?_
  simp (disch := omega) only [go_sem, reduceEqDiff, ↓reduceIte]
  exact ae_ (by simp only [eD_, hl, hB_, decide_true, Bool.true_and]; exact kV_ _ qg_ _ _)
 ·have hl' : ¬ ((b.length : Int) ≤ (a.length : Int)) := by omega
  simp (disch := omega) only [oq_, qM_, hl', go_sem, reduceEqDiff, reduceCtorEq, ↓reduceIte]
  exact ae_ (by simp [eD_, hl])
def ej_ (n : ByteArray) (s : List ByteArray) : Bool := cF_ n && eb_ s
def way (n : ByteArray) (s : List ByteArray) (o : ByteArray) (os : List ByteArray) : Bool := decide (n = o) && (eD_ s os || eD_ os s)
def c87 : LC :=
 .q [.o [.f 2], .o [.m 3 0, .c1 4 133 3, .m 2 4], .ret]
def tZ_ : LF := ⟨1, 5, c87, [.tmp 2]⟩
theorem vM_ : av_ prog Tryz.f87 tZ_ := aq_
theorem g1_ (s : ByteArray) (hs : s.size ≤ 1048576) (h : List Row) : aa_ prog 87 [.val (.string s)] h (.val (.bool (cF_ s))) := by
 refine am_ mixed Tryz.func87 vM_ rfl rfl ?_ h
 simp (disch := omega) only [tZ_, c87, go_sem, reduceCtorEq, ↓reduceIte]
 repeat' (first
  | exact ad_ _ _
  | simp (disch := omega) only [go_sem, ↓reduceIte]
  | (refine aa_.call (gk_ _ hs _) ?_)
  | (refine aa_.q (gk_ _ hs _) ?_)
  | ((first | (apply bd_; assumption) | (apply be_; assumption) | (apply bo_; assumption) | (apply bp_; assumption)); intro hb; try simp only [hb])
  | ((first | (apply aD_; assumption) | (apply aE_; assumption) | (apply aL_; assumption) | (apply aJ_; assumption)); intro hb; try simp only [hb])
  | ((first | apply aF_ | apply aM_ | apply an_ | apply ao_) <;> intro hb <;> (try simp only [hb]) <;> (first | have hp := a4_ hb | have hp := a3_ hb | have hp := a1_ hb | have hp := aZ_ hb | skip)))
def c53 : LC :=
 .q [.o [.f 4], .o [.m 5 0, .c1 6 87 5, .m 7 6, .gm 8 7 true 1, .gc 9 7 true 88 8, .pf 10 7 9, .m 4 10], .ret]
def uI_ : LF := ⟨2, 11, c53, [.tmp 4]⟩
theorem vw_ : av_ prog Tryz.f53 uI_ := aq_
theorem ca_ (n : ByteArray) (s : List ByteArray) (hn : n.size ≤ 1048576) (hs : s.length ≤ 1048576) (h : List Row) : aa_ prog 53 [.val (.string n), .list 0 1 (s.map az_)] h (.val (.bool (ej_ n s))) := by
 refine am_ mixed Tryz.func53 vw_ rfl rfl ?_ h
 simp (disch := omega) only [uI_, c53, go_sem, reduceCtorEq, ↓reduceIte]
 repeat' (first
  | exact ad_ _ _
  | (refine ae_ ?_; first | rfl | (simp only [ej_, *, Bool.true_and, Bool.false_and]; done) | (simp [ej_, *]; done))
  | simp (disch := omega) only [go_sem, reduceEqDiff, ↓reduceIte]
  | (refine aa_.call (g1_ _ hn _) ?_)
  | (refine aa_.q (g1_ _ hn _) ?_)
  | (refine aa_.call (gX_ _ hs _) ?_)
  | (refine aa_.q (gX_ _ hs _) ?_)
  | ((first | (apply bd_; assumption) | (apply be_; assumption) | (apply bo_; assumption) | (apply bp_; assumption)); intro hb; try simp only [hb])
  | ((first | (apply aD_; assumption) | (apply aE_; assumption) | (apply aL_; assumption) | (apply aJ_; assumption)); intro hb; try simp only [hb])
  | ((first | apply aF_ | apply aM_ | apply an_ | apply ao_) <;> intro hb <;> (try simp only [hb]) <;> (first | have hp := a4_ hb | have hp := a3_ hb | have hp := a1_ hb | have hp := aZ_ hb | skip)))
def c77 : LC :=
 .q [.o [.f 4], .o [.m 5 0, .c1 6 113 5, .m 7 6, .gm 8 7 true 1, .gc 9 7 true 114 8, .pf 10 7 9, .m 4 10], .ret]
def tO_ : LF := ⟨2, 11, c77, [.tmp 4]⟩
theorem u9_ : av_ prog Tryz.f77 tO_ := aq_
theorem bW_ (n : ByteArray) (s : List ByteArray) (hn : n.size ≤ 1048576) (hs : s.length ≤ 1048576) (h : List Row) : aa_ prog 77 [.val (.string n), .list 0 1 (s.map az_)] h (.val (.bool (ej_ n s))) := by
 refine am_ mixed Tryz.func77 u9_ rfl rfl ?_ h
 simp (disch := omega) only [tO_, c77, go_sem, reduceCtorEq, ↓reduceIte]
 repeat' (first
  | exact ad_ _ _
  | (refine ae_ ?_; first | rfl | (simp only [ej_, *, Bool.true_and, Bool.false_and]; done) | (simp [ej_, *]; done))
  | simp (disch := omega) only [go_sem, reduceEqDiff, ↓reduceIte]
  | (refine aa_.call (g9_ _ hn _) ?_)
  | (refine aa_.q (g9_ _ hn _) ?_)
  | (refine aa_.call (hc_ _ hs _) ?_)
  | (refine aa_.q (hc_ _ hs _) ?_)
  | ((first | (apply bd_; assumption) | (apply be_; assumption) | (apply bo_; assumption) | (apply bp_; assumption)); intro hb; try simp only [hb])
  | ((first | (apply aD_; assumption) | (apply aE_; assumption) | (apply aL_; assumption) | (apply aJ_; assumption)); intro hb; try simp only [hb])
  | ((first | apply aF_ | apply aM_ | apply an_ | apply ao_) <;> intro hb <;> (try simp only [hb]) <;> (first | have hp := a4_ hb | have hp := a3_ hb | have hp := a1_ hb | have hp := aZ_ hb | skip)))
def c72 : LC :=
 .q [.o [.f 8], .o [.m 9 0, .m 10 2, .bb 11 .eql false 9 10, .m 12 11, .gm 13 12 true 1, .gm 14 12 true 3, .g 15 12 true (.call 111 [.tmp 13, .tmp 14]), .gm 16 12 true 15, .gm 17 16 false 3, .gm 18 16 false 1, .g 19 16
 false (.call 111 [.tmp 17, .tmp 18]), .g 20 12 true (.pick (.tmp 16) (.const (.bool true)) (.tmp 19)), .pf 21 12 20, .m 8 21], .ret]
def t5_ : LF := ⟨4, 22, c72, [.tmp 8]⟩
theorem vP_ : av_ prog Tryz.f72 t5_ := aq_
theorem bV_ (n : ByteArray) (s : List ByteArray) (o : ByteArray) (os : List ByteArray) (hs : s.length ≤ 1048576) (hos : os.length ≤ 1048576) (h : List Row) : aa_ prog 72 [.val (.string n), .list 0 1 (s.map az_), .val (.string o), .list 0 1 (os.map az_)] h (.val (.bool (way n s o os))) := by
 refine am_ mixed Tryz.func72 vP_ rfl rfl ?_ h
 simp (disch := omega) only [t5_, c72, go_sem, reduceEqDiff, reduceCtorEq, ↓reduceIte]
 repeat' (first
  | exact ad_ _ _
  | (refine ae_ ?_; simp only [way, *, Bool.true_and, Bool.false_and, Bool.true_or, Bool.false_or, Bool.and_self]; done)
  | (refine ae_ ?_; first | rfl | (simp only [way, *, Bool.and_true, Bool.true_and, Bool.and_false, Bool.false_and, Bool.or_true, Bool.true_or, Bool.or_false, Bool.false_or, Bool.not_true, Bool.not_false, decide_true, decide_false, Bool.and_self, Bool.or_self]; done) | (simp [way, *]; done))
  | simp (disch := omega) only [go_sem, reduceEqDiff, ↓reduceIte]
  | (refine aa_.call (c6_ _ _ hs _) ?_)
  | (refine aa_.q (c6_ _ _ hs _) ?_)
  | (refine aa_.call (c6_ _ _ hos _) ?_)
  | (refine aa_.q (c6_ _ _ hos _) ?_)
  | ((first | (apply bd_; assumption) | (apply be_; assumption) | (apply bo_; assumption) | (apply bp_; assumption)); intro hb; try simp only [hb])
  | ((first | (apply aD_; assumption) | (apply aE_; assumption) | (apply aL_; assumption) | (apply aJ_; assumption)); intro hb; try simp only [hb])
  | ((first | apply aF_ | apply aM_ | apply an_ | apply ao_) <;> intro hb <;> (try simp only [hb]) <;> (first | have hp := a4_ hb | have hp := a3_ hb | have hp := a1_ hb | have hp := aZ_ hb | skip)))
def tU_ : LC :=
 .q [.o [.f 8], .o [.m 9 0, .m 10 2, .bb 11 .eql false 9 10, .m 12 11, .gm 13 12 true 1, .gm 14 12 true 3, .g 15 12 true (.call 147 [.tmp 13, .tmp 14]), .gm 16 12 true 15, .gm 17 16 false 3, .gm 18 16 false 1, .g 19 16
 false (.call 147 [.tmp 17, .tmp 18]), .g 20 12 true (.pick (.tmp 16) (.const (.bool true)) (.tmp 19)), .pf 21 12 20, .m 8 21], .ret]
def rp_ : LF := ⟨4, 22, tU_, [.tmp 8]⟩
theorem tG_ : av_ prog Tryz.f118 rp_ := aq_
theorem bR_ (n : ByteArray) (s : List ByteArray) (o : ByteArray) (os : List ByteArray) (hs : s.length ≤ 1048576) (hos : os.length ≤ 1048576) (h : List Row) : aa_ prog 118 [.val (.string n), .list 0 1 (s.map az_), .val (.string o), .list 0 1 (os.map az_)] h (.val (.bool (way n s o os))) := by
 refine am_ mixed Tryz.func118 tG_ rfl rfl ?_ h
 simp (disch := omega) only [rp_, tU_, go_sem, reduceEqDiff, reduceCtorEq, ↓reduceIte]
 repeat' (first
  | exact ad_ _ _
  | (refine ae_ ?_; simp only [way, *, Bool.true_and, Bool.false_and, Bool.true_or, Bool.false_or, Bool.and_self, Bool.or_comm]; done)
  | (refine ae_ ?_; first | rfl | (simp only [way, *, Bool.and_true, Bool.true_and, Bool.and_false, Bool.false_and, Bool.or_true, Bool.true_or, Bool.or_false, Bool.false_or, Bool.not_true, Bool.not_false, decide_true, decide_false, Bool.and_self, Bool.or_self]; done) | (simp [way, *]; done))
  | simp (disch := omega) only [go_sem, reduceEqDiff, ↓reduceIte]
  | (refine aa_.call (dY_ _ _ hs _) ?_)
  | (refine aa_.q (dY_ _ _ hs _) ?_)
  | (refine aa_.call (dY_ _ _ hos _) ?_)
  | (refine aa_.q (dY_ _ _ hos _) ?_)
  | ((first | (apply bd_; assumption) | (apply be_; assumption) | (apply bo_; assumption) | (apply bp_; assumption)); intro hb; try simp only [hb])
  | ((first | (apply aD_; assumption) | (apply aE_; assumption) | (apply aL_; assumption) | (apply aJ_; assumption)); intro hb; try simp only [hb])
  | ((first | apply aF_ | apply aM_ | apply an_ | apply ao_) <;> intro hb <;> (try simp only [hb]) <;> (first | have hp := a4_ hb | have hp := a3_ hb | have hp := a1_ hb | have hp := aZ_ hb | skip)))
def c37 : LC :=
 .q [.o [.f 2], .o [.m 3 0, .s 4 (.call 67 [.tmp 3, .const (.int .i64 1), .const (.int .i64 4)]), .m 2 4], .ret]
def uO_ : LF := ⟨1, 5, c37, [.tmp 2]⟩
theorem vc_ : av_ prog Tryz.f37 uO_ := aq_
theorem cP_ (x : Int)  (h : List Row) : aa_ prog 37 [.val (.int .i64 x)] h (.val (.bool (bx_ x 1 4))) := by
 refine am_ mixed Tryz.func37 vc_ rfl rfl ?_ h
 simp (disch := omega) only [uO_, c37, go_sem, reduceCtorEq, ↓reduceIte]
 repeat' (first
  | exact ad_ _ _
  | simp (disch := omega) only [go_sem, ↓reduceIte]
  | (refine aa_.call (bC_ _ _ _ _) ?_)
  | (refine aa_.q (bC_ _ _ _ _) ?_)
  | ((first | (apply aD_; assumption) | (apply aE_; assumption) | (apply aL_; assumption) | (apply aJ_; assumption)); intro hb; try simp only [hb])
  | ((first | apply an_ | apply ao_) <;> intro hb <;> (try simp only [hb]) <;> (first | have hp := a4_ hb | have hp := a3_ hb | have hp := a1_ hb | have hp := aZ_ hb | skip)))
def c52 : LC :=
 .q [.o [.f 2], .o [.m 3 0, .s 4 (.call 66 [.tmp 3, .const (.int .i64 1), .const (.int .i64 4)]), .m 2 4], .ret]
def uf_ : LF := ⟨1, 5, c52, [.tmp 2]⟩
theorem vV_ : av_ prog Tryz.f52 uf_ := aq_
theorem cx_ (x : Int)  (h : List Row) : aa_ prog 52 [.val (.int .i64 x)] h (.val (.bool (bx_ x 1 4))) := by
 refine am_ mixed Tryz.func52 vV_ rfl rfl ?_ h
 simp (disch := omega) only [uf_, c52, go_sem, reduceCtorEq, ↓reduceIte]
 repeat' (first
  | exact ad_ _ _
  | simp (disch := omega) only [go_sem, ↓reduceIte]
  | (refine aa_.call (b3_ _ _ _ _) ?_)
  | (refine aa_.q (b3_ _ _ _ _) ?_)
  | ((first | (apply aD_; assumption) | (apply aE_; assumption) | (apply aL_; assumption) | (apply aJ_; assumption)); intro hb; try simp only [hb])
  | ((first | apply an_ | apply ao_) <;> intro hb <;> (try simp only [hb]) <;> (first | have hp := a4_ hb | have hp := a3_ hb | have hp := a1_ hb | have hp := aZ_ hb | skip)))
theorem i8_ (n : ByteArray) (s : List ByteArray) (o : ByteArray) (os : List ByteArray) : way n s o os = way o os n s := by
 simp only [way]
 rw [Bool.or_comm]
 congr 1
 by_cases h : n = o
 ·subst h; rfl
 ·have : ¬ o = n := fun e => h e.symm
  simp [h, this]
def iK_ (x : ab_) : Bool := bx_ x.Job 1 4 && bx_ x.Count 1 9 && ej_ x.Name x.Subs
def fp_ (p a : ab_) : Bool := decide (iH_ p a < 0)
def dX_ (a b : ab_) : Bool := !decide (b.Job = a.Job) && way a.Name a.Subs b.Name b.Subs
theorem m5_ (p a : ab_) : (!fp_ p a) = (decide (a.Job < p.Job) || (decide (p.Job = a.Job) && !gl_ p.Name.data.toList (bss p.Subs) a.Name.data.toList (bss a.Subs))) := by
 unfold fp_ iH_
 by_cases h : p.Job = a.Job
 ·have h0 : e1_ p.Job a.Job = 0 := (ib_ _ _).2 h
  have h1 : ¬ (a.Job < p.Job) := by omega
  have h2 : decide (a.Job < p.Job) = false := decide_eq_false h1
  have h3 : decide (p.Job = a.Job) = true := decide_eq_true h
  rw [if_pos h0, h2, h3, Bool.false_or, Bool.true_and]
  congr 1
  rw [Bool.eq_iff_iff, decide_eq_true_eq]
  exact pz_ _ _ _ _
 ·have h0 : ¬ e1_ p.Job a.Job = 0 := fun q => h ((ib_ _ _).1 q)
  simp only [h0, if_false, h, decide_false, Bool.false_and, Bool.or_false]
  have := l9_ p.Job a.Job
  by_cases h2 : a.Job < p.Job
  ·have : ¬ (e1_ p.Job a.Job < 0) := by omega
   simp [h2, this]
  ·have : e1_ p.Job a.Job < 0 := by omega
   simp [h2, this]
def lz_ : Option ab_ → ab_ → Bool
 | none, _ => true
 | some p, a => fp_ p a
theorem j7_ (a : ab_) : lz_ none a = true := rfl
theorem jO_ (p a : ab_) : lz_ (some p) a = fp_ p a := rfl
def ck_ : List ab_ → List ab_ → Bool
 | _, [] => true
 | pre, a :: r => (iK_ a && lz_ pre.getLast? a && !(pre.any (dX_ a))) && ck_ (pre ++ [a]) r
def fV_ (hs : List ab_) : Bool := !decide (16 < (hs.length : Int)) && ck_ [] hs
theorem kS_ (hs : List ab_) (k : Nat) (h : k < hs.length) : ck_ (hs.take k) (hs.drop k) = ((iK_ hs[k] && lz_ (hs.take k).getLast? hs[k] && !((hs.take k).any (dX_ hs[k]))) && ck_ (hs.take (k + 1)) (hs.drop (k + 1))) := by
 conv => lhs; rw [drop_eq_getElem_cons h]
 rw [ck_]
 rw [take_append_getElem h]
theorem kQ_ {α : Type} (hs : List α) (k : Nat) (h : k < hs.length) (h0 : 0 < k) : (hs.take k).getLast? = some hs[k - 1] := by
 rw [getLast?_take, if_neg (by omega)]
 rw [getElem?_eq_getElem (by omega)]
 simp
theorem j9_ (hs : List ab_) (k : Nat) (h : hs.length ≤ k) : ck_ (hs.take k) (hs.drop k) = true := by
 rw [drop_eq_nil_of_le h]; rfl
def t8_ : LC :=
 .q [.o [.ki 4 0], .q [.o [.m 6 0, .ll 7 6, .ki 8 0], .block 0 (.loop (.q [.o [.bb 9 .lss false 8 7], .k 9 .skip (.exit 0), .block 1 (.q [.o [.m 10 8, .m 5 10], .o [.m 11 1, .m 12 0, .m 13 5, .ia 14 4 12 13, .ld 15 4 14,
 .s 16 (.callv (.tmp 11) [.tmp 15])], .k 16 (.q [.o [.m 17 5, .m 4 17], .ret]) .skip]), .o [.bk 18 .add false 8 1, .m 8 18]]))], .o [.s 4 (.mov (.const (.int .i64 (-1))))], .ret]
def rE_ : LF := ⟨2, 19, t8_, [.tmp 4]⟩
theorem tH_ : av_ prog Tryz.f137 rE_ := aq_
theorem eT_ (xs : List ab_) (p : ab_ → Bool) (g : Nat) (caps : List AV) (hcf : caps.all AV.flat = true) (hx : xs.length ≤ 1048576) (hc : bH_ prog g = true) (hp : ∀ x ∈ xs, ∀ h, aa_ prog g (.agg (ab_.cells x) :: caps) h (.val (.bool (p x)))) (h : List Row) :
 aa_ prog 137 [.list 0 4 (xs.map ab_.cells), .fn g [] caps] h (.val (.int .i64 (aU_ p xs 0))) := by
 refine am_ mixed Tryz.func137 tH_ rfl (by simp only [all_cons, all_nil, eO_, gi_ _ _ hcf]; rfl) ?_ h
 simp (disch := omega) only [rE_, t8_, go_sem, reduceCtorEq, Int.reduceNeg, ↓reduceIte]
 refine ay_ (fun n t h => ∃ k : Nat, t 0 = .list 0 4 (xs.map ab_.cells) ∧ t 1 = .fn g [] caps ∧ t 6 = .list 0 4 (xs.map ab_.cells) ∧ t 7 = .val (.int .i64 xs.length) ∧ t 8 = .val (.int .i64 k) ∧ n = xs.length - k ∧ k ≤ xs.length ∧ (aU_ p xs 0 = aU_ p (xs.drop k) k)) (xs.length) ?_ ?_
 ·exact ⟨0, rfl, rfl, rfl, rfl, rfl, rfl, Nat.zero_le _, rfl⟩
 ·rintro J hJ n t h ⟨k, t0, t1, t6, t7, k8, rfl, hk, hS⟩
  by_cases hlt : k < xs.length
  ·skip
   rw [cC_ p xs k hlt] at hS
   simp (disch := omega) only [t0, t1, t7, k8, hlt, hc, ab_.cells, go_sem, reduceEqDiff, Nat.reduceAdd, reduceCtorEq, Int.reduceNeg, ↓reduceIte]
   repeat' (first
    | exact ad_ _ _
    | exact ⟨xs.length - (k + 1), by omega, hJ _ _ _ ⟨k + 1, by simp [upd, t0], by simp [upd, t1], by simp [upd, t6], by simp [upd, t7], by simp [upd], rfl, by omega, by rw [hS]; simp [*]⟩⟩
    | (refine at_ ?_; rw [hS]; simp [*]; done)
    | (refine at_ ?_; rw [hS, bB_ _ _ _ (by omega)])
    | simp (disch := omega) only [k8, go_sem, reduceEqDiff, Int.reduceNeg, ↓reduceIte]
    | (refine aa_.call (hp xs[k] (getElem_mem hlt) _) ?_)
    | (refine aa_.q (hp xs[k] (getElem_mem hlt) _) ?_)
    | ((first | (apply aD_; assumption) | (apply aE_; assumption) | (apply aL_; assumption) | (apply aJ_; assumption)); intro hb; try simp only [hb])
    | ((first | apply an_ | apply ao_) <;> intro hb <;> (try simp only [hb]) <;> (first | have hp := a4_ hb | have hp := a3_ hb | have hp := a1_ hb | have hp := aZ_ hb | skip)))
  ·skip
   simp (disch := omega) only [t7, k8, hlt, go_sem, Int.reduceNeg, ↓reduceIte]
   repeat' (first
    | exact ad_ _ _
    | (refine at_ ?_; rw [hS]; simp [*]; done)
    | (refine at_ ?_; rw [hS, bB_ _ _ _ (by omega)])
    | simp (disch := omega) only [t0, t1, t6, t7, k8, go_sem, reduceEqDiff, Nat.reduceAdd, reduceLeDiff, reduceCtorEq, Int.reduceLT, Int.reduceLE, Int.reduceNeg, Int.reduceSub, Int.reduceAdd, Int.reduceToNat, ↓reduceIte]
    | (refine aa_.call (hp xs[k] (getElem_mem hlt) _) ?_)
    | (refine aa_.q (hp xs[k] (getElem_mem hlt) _) ?_)
    | ((first | (apply aD_; assumption) | (apply aE_; assumption) | (apply aL_; assumption) | (apply aJ_; assumption)); intro hb; try simp only [hb])
    | ((first | apply an_ | apply ao_) <;> intro hb <;> (try simp only [hb]) <;> (first | have hp := a4_ hb | have hp := a3_ hb | have hp := a1_ hb | have hp := aZ_ hb | skip)))
def uZ_ : LC :=
 .q [.o [.f 4], .o [.m 5 0, .m 6 1, .c2 7 137 5 6, .bk 8 .geq false 7 0, .m 4 8], .ret]
def q9_ : LF := ⟨2, 9, uZ_, [.tmp 4]⟩
theorem t1_ : av_ prog Tryz.f116 q9_ := aq_
theorem cI_ (xs : List ab_) (p : ab_ → Bool) (g : Nat) (caps : List AV) (hcf : caps.all AV.flat = true) (hx : xs.length ≤ 1048576) (hc : bH_ prog g = true) (hp : ∀ x ∈ xs, ∀ h, aa_ prog g (.agg (ab_.cells x) :: caps) h (.val (.bool (p x)))) (h : List Row) :
 aa_ prog 116 [.list 0 4 (xs.map ab_.cells), .fn g [] caps] h (.val (.bool (xs.any p))) := by
 refine am_ mixed Tryz.func116 t1_ rfl (by simp only [all_cons, all_nil, eO_, gi_ _ _ hcf]; rfl) ?_ h
 simp (disch := omega) only [q9_, uZ_, go_sem, reduceEqDiff, reduceCtorEq, ↓reduceIte]
 refine aa_.call (eT_ xs p g caps hcf hx hc hp _) ?_
 simp (disch := omega) only [go_sem, ↓reduceIte]
 exact ae_ (fk_ p xs)
def tR_ : LC :=
 .q [.o [.bx 2 74 0, .f 3], .o [.fa 4 0 2, .ln 5 4, .fa 6 0 1, .ln 7 6, .bb 8 .neq false 5 7, .m 9 8, .gf 10 9 true 2 1, .gn 11 9 true 10, .gf 12 9 true 3 1, .gn 13 9 true 12, .gf 14 9 true 2 2, .gn 15 9 true 14, .gf 16 9
 true 3 2, .gn 17 9 true 16, .g 18 9 true (.call 118 [.tmp 11, .tmp 13, .tmp 15, .tmp 17]), .pf 19 9 18, .m 3 19], .ret]
def q5_ : LF := ⟨2, 20, tR_, [.tmp 3]⟩
theorem tQ_ : av_ prog Tryz.f117 q5_ := aq_
theorem iM_ (b a : ab_) (hb0 : ab_.sz b ≤ 1048576) (ha : ab_.sz a ≤ 1048576) (h : List Row) : aa_ prog 117 [.agg (ab_.cells b), .iptr (ab_.cells a)] h (.val (.bool (dX_ a b))) := by
 refine am_ mixed Tryz.func117 tQ_ rfl rfl ?_ h
 simp (disch := omega) only [q5_, tR_, ab_.cells, go_sem, reduceEqDiff, Nat.reduceAdd, ↓reduceIte]
 repeat' (first
  | exact ad_ _ _
  | (refine ae_ ?_; first | rfl | (simp only [dX_, *, Bool.true_and, Bool.false_and, Bool.not_true, Bool.not_false]; done) | (simp [dX_, *]; done))
  | simp (disch := omega) only [go_sem, reduceEqDiff, Nat.reduceAdd, reduceLeDiff, ↓reduceIte]
  | (refine aa_.call (bR_ _ _ _ _ (ar_ (ab_.sz_Subs ha)) (ar_ (ab_.sz_Subs hb0)) _) ?_)
  | (refine aa_.q (bR_ _ _ _ _ (ar_ (ab_.sz_Subs ha)) (ar_ (ab_.sz_Subs hb0)) _) ?_)
  | ((first | (apply bd_; assumption) | (apply be_; assumption) | (apply bo_; assumption) | (apply bp_; assumption)); intro hb; try simp only [hb])
  | ((first | (apply aD_; assumption) | (apply aE_; assumption) | (apply aL_; assumption) | (apply aJ_; assumption)); intro hb; try simp only [hb])
  | ((first | (apply g5_; assumption) | (apply g0_; assumption) | (apply iG_; assumption) | (apply iF_; assumption)); intro hb; try simp only [hb])
  | ((first | apply aF_ | apply aM_ | apply an_ | apply ao_ | apply d1_ | apply eu_) <;> intro hb <;> (try simp only [hb]) <;> (first | have hp := a4_ hb | have hp := a3_ hb | have hp := a1_ hb | have hp := aZ_ hb | skip)))
def c78 : LC :=
 .q [.o [.f 2], .q [.o [.m 5 0, .ll 6 5, .bk 7 .gtr false 6 16], .k 7 (.q [.o [.f 2], .ret]) .skip], .q [.o [.m 8 0, .ll 9 8, .ki 10 0], .block 0 (.loop (.q [.o [.bb 11 .lss false 10 9], .k 11 .skip (.exit 0), .block 1
 (.q [.o [.m 12 10, .ia 13 4 8 10, .ld 14 4 13, .s 4 (.alloc 74 (.agg #[.int .i64 0, .int .i64 0, .string ⟨#[]⟩, .slice none 0 0])), .m 3 12, .st 4 4 14], .q [.dops [.fa 15 0 4, .ln 16 15, .c1 17 37 16, .nt 18 17, .m 19
 18, .gf 20 19 false 1 4, .gn 21 19 false 20, .g 22 19 false (.call 67 [.tmp 21, .const (.int .i64 1), .const (.int .i64 9)]), .gu 23 19 false 22, .pt 24 19 23, .m 25 24, .gf 26 25 false 2 4, .gn 27 25 false 26, .gf 28 25
 false 3 4, .gn 29 25 false 28, .g 30 25 false (.call 77 [.tmp 27, .tmp 29]), .gu 31 25 false 30, .pt 32 25 31, .m 33 32, .gm 34 33 false 3, .g 35 33 false (.bin .gtr false (.tmp 34) (.const (.int .i64 0))), .gm 36 33
 false 35, .gm 37 36 true 0, .gm 38 36 true 3, .g 39 36 true (.bin .sub false (.tmp 38) (.const (.int .i64 1))), .g 40 36 true (.indexAddr 4 (.tmp 37) (.tmp 39)), .gl 41 36 true 4 40, .gl 42 36 true 4 4, .g 43 36 true
 (.call 115 [.tmp 41, .tmp 42]), .g 44 36 true (.bin .geq false (.tmp 43) (.const (.int .i64 0))), .g 45 33 false (.pick (.tmp 36) (.tmp 44) (.const (.bool false))), .pt 46 33 45], .k 46 (.q [.o [.f 2], .ret]) .skip], .o
 [.m 47 0, .m 48 3, .s 49 (.sliceSl 4 (.tmp 47) none (some (.tmp 48))), .s 50 (.mkFunc 117 [] [.tmp 4]), .c2 51 116 49 50], .k 51 (.q [.o [.f 2], .ret]) .skip]), .o [.bk 52 .add false 10 1, .m 10 52]]))], .o [.t 2], .ret]
def qf_ : LF := ⟨1, 53, c78, [.tmp 2]⟩
theorem vO_ : av_ prog Tryz.f78 qf_ := aq_
theorem cV_ (x : ab_) : ab_.cells x = [.val (.int .i64 x.Job), .val (.int .i64 x.Count), .val (.string x.Name), .list 0 1 (x.Subs.map az_)] := rfl
theorem ku_ (hs : List ab_) (hx : as_ ab_.sz hs ≤ 1048576) (h : List Row) : aa_ prog 78 [.list 0 4 (hs.map ab_.cells)] h (.val (.bool (fV_ hs))) := by
 refine am_ mixed Tryz.func78 vO_ rfl rfl ?_ h
 have hlen := ar_ hx
 have hm : ∀ x ∈ hs, ab_.sz x ≤ 1048576 := fun x hx' => b4_ hx hx'
 by_cases h16 : 16 < (hs.length : Int)
 ·simp (disch := omega) only [qf_, c78, h16, go_sem, reduceCtorEq, ↓reduceIte]
  exact ae_ (by simp [fV_, h16])
 have hS0 : fV_ hs = ck_ [] hs := by simp [fV_, h16]
 simp (disch := omega) only [qf_, c78, h16, go_sem, reduceCtorEq, ↓reduceIte]
 refine ay_ (fun n t h => ∃ k : Nat, t 0 = .list 0 4 (hs.map ab_.cells) ∧ t 8 = .list 0 4 (hs.map ab_.cells) ∧ t 9 = .val (.int .i64 hs.length) ∧ t 10 = .val (.int .i64 k) ∧ n = hs.length - k ∧ k ≤ hs.length ∧ ck_ [] hs = ck_ (hs.take k) (hs.drop k)) hs.length ?_ ?_
 ·exact ⟨0, rfl, rfl, rfl, rfl, rfl, Nat.zero_le _, rfl⟩
 ·rintro J hJ n t h ⟨k, t0, t8, t9, t10, rfl, hk, hS⟩
  by_cases hlt : k < hs.length
  ·rw [kS_ hs k hlt] at hS
   simp only [iK_] at hS
   have hck := hm _ (getElem_mem hlt)
   have hnx : ∀ t', t' 0 = t 0 → t' 8 = t 8 → t' 9 = t 9 → t' 10 = .val (.int .i64 (k + 1 : Nat)) → ∀ h', ck_ [] hs = ck_ (hs.take (k + 1)) (hs.drop (k + 1)) → ∃ m, m < hs.length - k ∧ J m t' h' := fun t' e0 e8 e9 e10 h' e => ⟨hs.length - (k + 1), by omega, hJ _ _ _ ⟨k + 1, e0.trans t0, e8.trans t8, e9.trans t9, e10, rfl, by omega, e⟩⟩
   have hany : ∀ H : List Row, ∀ l : Nat, H[l]? = some ⟨74, 4, [ab_.cells hs[k]]⟩ → aa_ prog 116 [.list 0 4 ((hs.map ab_.cells).take k), .fn 117 [] [.ptr l 1 0 0]] H (.val (.bool ((hs.take k).any (dX_ hs[k])))) := by
    intro H l hl
    rw [kY_]
    refine kg_ (n := 3) rfl (fun h => cI_ (hs.take k) (dX_ hs[k]) 117 [.iptr (ab_.cells hs[k])] rfl (by rw [length_take]; omega) (by kernel_rfl) (fun x hx' h => iM_ x hs[k] (hm x (mem_of_mem_take hx')) hck h) h) ?_
    exact cS_ rfl (cr_ (jT_ rfl (cr_ (fU_ hl rfl (by show 0 < 4; decide)))))
   by_cases hk0 : k = 0
   ·have hk0' : ((0 : Int) < (k : Int)) = False := eq_false (by omega)
    have hg : (hs.take k).getLast? = none := by rw [hk0]; simp
    rw [hg, j7_] at hS
    clear hk0 hg
    simp (disch := omega) only [t8, t9, t10, hlt, cV_, go_sem, reduceEqDiff, Nat.reduceAdd, ↓reduceIte]
    repeat' (first
     | exact ad_ _ _
     | (refine ae_ ?_; rw [hS0, hS]; simp only [*, Bool.and_true, Bool.and_false, Bool.false_and, Bool.not_true, Bool.and_self]; done)
     | (refine hnx _ (by simp [upd]) (by simp [upd]) (by simp [upd]) (by simp [upd]) _ ?_; rw [hS]; simp only [*, Bool.true_and, Bool.not_false, Bool.and_self]; done)
     | simp (disch := omega) only [t0, t10, hk0', go_sem, reduceEqDiff, reduceCtorEq, ↓reduceIte]
     | (refine aa_.call (cP_ _ _) ?_)
     | (refine aa_.q (cP_ _ _) ?_)
     | (refine aa_.call (bC_ _ _ _ _) ?_)
     | (refine aa_.q (bC_ _ _ _ _) ?_)
     | (refine aa_.call (bW_ _ _ (ab_.sz_Name hck) (ar_ (ab_.sz_Subs hck)) _) ?_)
     | (refine aa_.q (bW_ _ _ (ab_.sz_Name hck) (ar_ (ab_.sz_Subs hck)) _) ?_)
     | (refine aa_.call (hany _ _ (cW_ _ _)) ?_)
     | (refine aa_.q (hany _ _ (cW_ _ _)) ?_)
     | ((first | (apply aD_; assumption) | (apply aE_; assumption) | (apply aL_; assumption) | (apply aJ_; assumption)); intro hb; try simp only [hb])
     | ((first | (apply g5_; assumption) | (apply g0_; assumption) | (apply iG_; assumption) | (apply iF_; assumption)); intro hb; try simp only [hb])
     | ((first | apply an_ | apply ao_ | apply d1_ | apply eu_) <;> intro hb <;> (try simp only [hb]) <;> (first | have hp := a4_ hb | have hp := a3_ hb | have hp := a1_ hb | have hp := aZ_ hb | skip)))
   ·have hk0' : ((0 : Int) < (k : Int)) = True := eq_true (by omega)
    have hkp : ((k : Int) - 1) = ((k - 1 : Nat) : Int) := by omega
    have hkl : k - 1 < hs.length := by omega
    have hlt' : decide (0 ≤ iH_ hs[k - 1] hs[k]) = !fp_ hs[k - 1] hs[k] := by unfold fp_; rw [v4_, decide_eq_decide]; omega
    rw [kQ_ hs k hlt (by omega), jO_] at hS
    simp (disch := omega) only [t8, t9, t10, hlt, cV_, go_sem, reduceEqDiff, Nat.reduceAdd, ↓reduceIte]
    repeat' (first
     | exact ad_ _ _
     | (refine ae_ ?_; rw [hS0, hS]; simp only [*, Bool.and_false, Bool.false_and, Bool.not_true, Bool.and_self]; done)
     | (refine hnx _ (by simp [upd]) (by simp [upd]) (by simp [upd]) (by simp [upd]) _ ?_; rw [hS]; simp only [*, Bool.true_and, Bool.not_false, Bool.and_self]; done)
     | simp (disch := omega) only [t0, t10, hk0', hkp, hlt', go_sem, reduceEqDiff, Nat.reduceAdd, reduceCtorEq, ↓reduceIte]
     | (refine aa_.call (cP_ _ _) ?_)
     | (refine aa_.q (cP_ _ _) ?_)
     | (refine aa_.call (bC_ _ _ _ _) ?_)
     | (refine aa_.q (bC_ _ _ _ _) ?_)
     | (refine aa_.call (bW_ _ _ (ab_.sz_Name hck) (ar_ (ab_.sz_Subs hck)) _) ?_)
     | (refine aa_.q (bW_ _ _ (ab_.sz_Name hck) (ar_ (ab_.sz_Subs hck)) _) ?_)
     | (refine aa_.call (eR_ hs[k - 1] hs[k] (hm _ (getElem_mem hkl)) hck _) ?_)
     | (refine aa_.q (eR_ hs[k - 1] hs[k] (hm _ (getElem_mem hkl)) hck _) ?_)
     | (refine aa_.call (hany _ _ (cW_ _ _)) ?_)
     | (refine aa_.q (hany _ _ (cW_ _ _)) ?_)
     | ((first | (apply aD_; assumption) | (apply aE_; assumption) | (apply aL_; assumption) | (apply aJ_; assumption)); intro hb; try simp only [hb])
     | ((first | (apply g5_; assumption) | (apply g0_; assumption) | (apply iG_; assumption) | (apply iF_; assumption)); intro hb; try simp only [hb])
     | ((first | apply an_ | apply ao_ | apply d1_ | apply eu_) <;> intro hb <;> (try simp only [hb]) <;> (first | have hp := a4_ hb | have hp := a3_ hb | have hp := a1_ hb | have hp := aZ_ hb | skip)))
  ·simp (disch := omega) only [t9, t10, hlt, go_sem, ↓reduceIte]
   exact ae_ (by rw [hS0, hS, j9_ _ _ (by omega)])
def cj_ : List Int → List af_ → Bool
 | _, [] => true
 | pre, a :: r => (bx_ a.Job 1 4 && !pre.contains a.Job && bx_ a.Until 0 999999 && ej_ a.Name a.Subs) && cj_ (pre ++ [a.Job]) r
theorem kK_ (ks : List af_) (k : Nat) (h : k < ks.length) : cj_ ((ks.take k).map af_.Job) (ks.drop k) = ((bx_ ks[k].Job 1 4 && !((ks.take k).map af_.Job).contains ks[k].Job && bx_ ks[k].Until 0 999999 && ej_ ks[k].Name ks[k].Subs) && cj_ ((ks.take (k + 1)).map af_.Job) (ks.drop (k + 1))) := by
 conv => lhs; rw [drop_eq_getElem_cons h]
 rw [cj_, ← take_append_getElem h, map_append]
 rfl
theorem jy_ (ks : List af_) (k : Nat) (h : ks.length ≤ k) : cj_ ((ks.take k).map af_.Job) (ks.drop k) = true := by
 rw [drop_eq_nil_of_le h]; rfl
def cE_ (x : ac_) : Bool := cj_ [] x.Asks && fV_ x.Held
theorem dr_ (x : af_) : af_.cells x = [.val (.int .i64 x.Job), .val (.int .i64 x.Until), .val (.string x.Name), .list 0 1 (x.Subs.map az_)] := rfl
theorem lq_ (ks : List af_) (k : Nat) (h : k < ks.length) (n : Int) : ((ks.take (k + 1)).map af_.Job).contains n = (((ks.take k).map af_.Job).contains n || decide (n = ks[k].Job)) := by
 rw [← take_append_getElem h, map_append, contains_append]
 congr 1
 by_cases e : n = ks[k].Job <;> simp [e]
theorem nT_ {h : List Row} {l k : Nat} {r v : Row} (e : h[k]? = some r) (hne : l ≠ k) : (h.set l v)[k]? = some r := by
 rw [getElem?_set_ne hne]; exact e
theorem jv_ {h : List Row} {l : Nat} {r v : Row} (e : h[l]? = some r) : (h.set l v)[l]? = some v := by
 have : l < h.length := (List.getElem?_eq_some_iff.1 e).1
 simp [this]
def c36 : LC :=
 .q [.o [.bx 1 32 0, .f 2], .o [.s 6 (.mkMap), .m 3 6], .q [.o [.fa 7 1 1, .ln 8 7, .ll 9 8, .ki 10 0], .block 0 (.loop (.q [.o [.bb 11 .lss false 10 9], .k 11 .skip (.exit 0), .block 1 (.q [.o [.ia 12 4 8 10, .ld 13 4
 12, .s 5 (.alloc 64 (.agg #[.int .i64 0, .int .i64 0, .string ⟨#[]⟩, .slice none 0 0])), .st 4 5 13], .q [.o [.fa 14 0 5, .ln 15 14, .c1 16 37 15, .nt 17 16, .m 18 17, .gm 19 18 false 3, .gf 20 18 false 0 5, .gn 21 18
 false 20, .g 22 18 false (.lookup (.bool false) false (.tmp 19) (.tmp 21)), .pt 23 18 22, .m 24 23, .gf 25 24 false 1 5, .gn 26 24 false 25, .g 27 24 false (.call 67 [.tmp 26, .const (.int .i64 0), .const (.int .i64
 999999)]), .gu 28 24 false 27, .pt 29 24 28, .m 30 29, .gf 31 30 false 2 5, .gn 32 30 false 31, .gf 33 30 false 3 5, .gn 34 30 false 33, .g 35 30 false (.call 77 [.tmp 32, .tmp 34]), .gu 36 30 false 35, .pt 37 30 36], .k
 37 (.q [.o [.f 2], .ret]) .skip], .o [.m 38 3, .fa 39 0 5, .ln 40 39, .z (.mapUpd (.tmp 38) (.tmp 40) (.const (.bool true)))]]), .o [.bk 41 .add false 10 1, .m 10 41]]))], .o [.fa 42 0 1, .ln 43 42, .c1 44 78 43, .m 2
 44], .ret]
def tW_ : LF := ⟨1, 45, c36, [.tmp 2]⟩
theorem vg_ : av_ Tryz.prog Tryz.f36 tW_ := aq_
theorem jM_ (x : ac_) (hx : ac_.sz x ≤ 1048576) (h : List Row) : aa_ Tryz.prog 36 [.agg (ac_.cells x)] h (.val (.bool (cE_ x))) := by
 refine am_ mixed Tryz.func36 vg_ rfl rfl ?_ h
 have hlen := ar_ (ac_.sz_Asks hx)
 have hm : ∀ a ∈ x.Asks, af_.sz a ≤ 1048576 := fun a ha => b4_ (ac_.sz_Asks hx) ha
 simp (disch := omega) only [tW_, c36, ac_.cells, go_sem, reduceEqDiff, Nat.reduceAdd, ↓reduceIte]
 refine ay_ (fun n t h => ∃ (k : Nat) (ents : List (Int × Value)), t 1 = .ptr 0 1 0 0 ∧ t 3 = .mp 1 ∧ t 8 = .list 0 4 (x.Asks.map af_.cells) ∧ t 9 = .val (.int .i64 x.Asks.length) ∧ t 10 = .val (.int .i64 k) ∧
  h[0]? = some ⟨32, 2, [[.list 0 4 (x.Held.map ab_.cells), .list 0 4 (x.Asks.map af_.cells)]]⟩ ∧ h[1]? = some ⟨.map ents, 0, []⟩ ∧ (∀ n, (ents.lookup n).getD (.bool false) = .bool (((x.Asks.take k).map af_.Job).contains n)) ∧ n = x.Asks.length - k ∧ k ≤ x.Asks.length ∧ cj_ [] x.Asks = cj_ ((x.Asks.take k).map af_.Job) (x.Asks.drop k)) x.Asks.length ?_ ?_
 ·exact ⟨0, [], rfl, rfl, rfl, rfl, rfl, rfl, rfl, fun n => by simp [List.lookup], rfl, Nat.zero_le _, rfl⟩
 ·rintro J hJ n t h ⟨k, ents, t1, t3, t8, t9, t10, o0, o1, hL, rfl, hk, hS⟩
  have p0 : ∀ l, (h ++ l)[0]? = some ⟨32, 2, [[.list 0 4 (x.Held.map ab_.cells), .list 0 4 (x.Asks.map af_.cells)]]⟩ := fun l => bt_ o0
  have p1 : ∀ l, (h ++ l)[1]? = some ⟨.map ents, 0, []⟩ := fun l => bt_ o1
  by_cases hlt : k < x.Asks.length
  ·rw [kK_ x.Asks k hlt] at hS
   have hck := hm _ (getElem_mem hlt)
   have hLk := hL x.Asks[k].Job
   have hnx : ∀ t', t' 1 = t 1 → t' 3 = t 3 → t' 8 = t 8 → t' 9 = t 9 → t' 10 = .val (.int .i64 (k + 1 : Nat)) → ∀ l : List Row, cj_ [] x.Asks = cj_ ((x.Asks.take (k + 1)).map af_.Job) (x.Asks.drop (k + 1)) → ∃ m, m < x.Asks.length - k ∧ J m t' ((h ++ l).set 1 ⟨.map (cG_ ents x.Asks[k].Job (.bool true)), 0, []⟩) := by
    intro t' e1 e3 e8 e9 e10 l e
    refine ⟨x.Asks.length - (k + 1), by omega, hJ _ _ _ ⟨k + 1, _, e1.trans t1, e3.trans t3, e8.trans t8, e9.trans t9, e10, nT_ (p0 l) (by decide), jv_ (p1 l), fun n => ?_, rfl, by omega, e⟩⟩
    rw [h1_, lq_ _ _ hlt]
    by_cases q : n = x.Asks[k].Job
    ·rw [if_pos q]; simp [q]
    ·rw [if_neg q, hL n]; simp [q]
   simp (disch := omega) only [t8, t9, t10, hlt, dr_, go_sem, reduceEqDiff, Nat.reduceAdd, ↓reduceIte]
   repeat' (first
    | exact ad_ _ _
    | (refine ae_ ?_; rw [cE_, hS]; simp only [*, Bool.and_false, Bool.false_and, Bool.not_true, Bool.not_false, Bool.and_self]; done)
    | (refine hnx _ (by simp [upd]) (by simp [upd]) (by simp [upd]) (by simp [upd]) (by simp [upd]) _ ?_; rw [hS]; simp only [*, Bool.true_and, Bool.not_false, Bool.and_self]; done)
    | simp (disch := omega) only [t3, t10, p1, hLk, go_sem, reduceEqDiff, ↓reduceIte]
    | (refine aa_.call (cP_ _ _) ?_)
    | (refine aa_.q (cP_ _ _) ?_)
    | (refine aa_.call (bC_ _ _ _ _) ?_)
    | (refine aa_.q (bC_ _ _ _ _) ?_)
    | (refine aa_.call (bW_ _ _ (af_.sz_Name hck) (ar_ (af_.sz_Subs hck)) _) ?_)
    | (refine aa_.q (bW_ _ _ (af_.sz_Name hck) (ar_ (af_.sz_Subs hck)) _) ?_)
    | ((first | (apply bd_; assumption) | (apply be_; assumption) | (apply bo_; assumption) | (apply bp_; assumption)); intro hb; try simp only [hb])
    | ((first | (apply aD_; assumption) | (apply aE_; assumption) | (apply aL_; assumption) | (apply aJ_; assumption)); intro hb; try simp only [hb])
    | ((first | apply aF_ | apply aM_ | apply an_ | apply ao_) <;> intro hb <;> (try simp only [hb]) <;> (first | have hp := a4_ hb | have hp := a3_ hb | have hp := a1_ hb | have hp := aZ_ hb | skip)))
  ·rw [jy_ _ _ (by omega)] at hS
   simp (disch := omega) only [t1, t9, t10, hlt, o0, go_sem, reduceEqDiff, ↓reduceIte]
   refine aa_.call (ku_ x.Held (ac_.sz_Held hx) _) ?_
   simp (disch := omega) only [go_sem, ↓reduceIte]
   exact ae_ (by rw [cE_, hS, Bool.true_and])
def c73 : LC :=
 .q [.o [.bx 2 32 0, .ki 4 0], .q [.o [.ki 5 0], .block 0 (.loop (.q [.q [.o [.m 6 5, .fa 7 1 2, .ln 8 7, .ll 9 8, .bb 10 .lss false 6 9], .k 10 .skip (.exit 0)], .block 1 (.q [.o [.fa 13 1 2, .ln 14 13, .m 15 5, .ia 16 4
 14 15, .fa 17 0 16, .ln 18 17, .m 19 1, .bb 20 .eql false 18 19], .k 20 (.q [.o [.m 21 5, .m 4 21], .ret]) .skip]), .o [.m 11 5, .bk 12 .add false 11 1, .m 5 12]]))], .o [.s 4 (.mov (.const (.int .i64 (-1))))], .ret]
def uN_ : LF := ⟨2, 22, c73, [.tmp 4]⟩
theorem v1_ : av_ Tryz.prog Tryz.f73 uN_ := aq_
def aC_ (x : ac_) (j : Int) : Int := aU_ (fun a : af_ => decide (a.Job = j)) x.Asks 0
theorem e2_ (x : ac_) (j : Int) (hx : x.Asks.length ≤ 1048576) (h : List Row) : aa_ Tryz.prog 73 [.agg (ac_.cells x), .val (.int .i64 j)] h (.val (.int .i64 (aC_ x j))) := by
 refine am_ mixed Tryz.func73 v1_ rfl rfl ?_ h
 simp (disch := omega) only [uN_, c73, ac_.cells, go_sem, Nat.reduceAdd, Int.reduceNeg, ↓reduceIte]
 refine ay_ (fun n t h => ∃ k : Nat, t 2 = .ptr 0 1 0 0 ∧ t 1 = .val (.int .i64 j) ∧ t 5 = .val (.int .i64 k) ∧ h[0]? = some ⟨32, 2, [[.list 0 4 (x.Held.map ab_.cells), .list 0 4 (x.Asks.map af_.cells)]]⟩ ∧ n = x.Asks.length - k ∧ k ≤ x.Asks.length ∧ (aC_ x j = aU_ (fun a : af_ => decide (a.Job = j)) (x.Asks.drop k) k)) (x.Asks.length) ?_ ?_
 ·exact ⟨0, rfl, rfl, rfl, rfl, rfl, Nat.zero_le _, rfl⟩
 ·rintro J hJ n t h ⟨k, t2, t1, k5, o0, rfl, hk, hS⟩
  have p0 : ∀ l, (h ++ l)[0]? = some ⟨32, 2, [[.list 0 4 (x.Held.map ab_.cells), .list 0 4 (x.Asks.map af_.cells)]]⟩ := fun l => bt_ o0
  by_cases hlt : k < x.Asks.length
  ·skip
   rw [cC_ _ x.Asks k hlt] at hS
   simp (disch := omega) only [t2, t1, k5, o0, hlt, dr_, go_sem, reduceEqDiff, Nat.reduceAdd, Int.reduceNeg, ↓reduceIte]
   repeat' (first
    | exact ad_ _ _
    | exact ⟨x.Asks.length - (k + 1), by omega, hJ _ _ _ ⟨k + 1, by simp [upd, t2], by simp [upd, t1], by simp [upd], by first | exact o0 | exact p0 _, rfl, by omega, by rw [hS]; simp [*]⟩⟩
    | (refine at_ ?_; rw [hS]; simp [*]; done)
    | (refine at_ ?_; rw [hS, bB_ _ _ _ (by omega)])
    | simp (disch := omega) only [k5, go_sem, reduceEqDiff, Int.reduceNeg, ↓reduceIte]
    | ((first | (apply aD_; assumption) | (apply aE_; assumption) | (apply aL_; assumption) | (apply aJ_; assumption)); intro hb; try simp only [hb])
    | ((first | apply an_ | apply ao_) <;> intro hb <;> (try simp only [hb]) <;> (first | have hp := a4_ hb | have hp := a3_ hb | have hp := a1_ hb | have hp := aZ_ hb | skip)))
  ·skip
   simp (disch := omega) only [t2, k5, o0, hlt, go_sem, reduceEqDiff, Int.reduceNeg, ↓reduceIte]
   repeat' (first
    | exact ad_ _ _
    | (refine at_ ?_; rw [hS]; simp [*]; done)
    | (refine at_ ?_; rw [hS, bB_ _ _ _ (by omega)])
    | simp (disch := omega) only [t2, t1, k5, o0, p0, go_sem, reduceEqDiff, Nat.reduceAdd, reduceLeDiff, reduceCtorEq, Int.reduceLT, Int.reduceLE, Int.reduceNeg, Int.reduceSub, Int.reduceAdd, Int.reduceToNat, ↓reduceIte]
    | ((first | (apply aD_; assumption) | (apply aE_; assumption) | (apply aL_; assumption) | (apply aJ_; assumption)); intro hb; try simp only [hb])
    | ((first | apply an_ | apply ao_) <;> intro hb <;> (try simp only [hb]) <;> (first | have hp := a4_ hb | have hp := a3_ hb | have hp := a1_ hb | have hp := aZ_ hb | skip)))
theorem kW_ {α : Type} (p : α → Bool) : ∀ (xs : List α) (k j : Nat) (h : k < xs.length), p xs[k] = true → if (xs.take k).any p then aU_ p xs j < ((j + k : Nat) : Int) else aU_ p xs j = ((j + k : Nat) : Int)
 | [], k, j, h, _ => by simp at h
 | x :: xs, 0, j, h, hp => by
  have : p x = true := hp
  simp [aU_, this]
 | x :: xs, k + 1, j, h, hp => by
  have ih := kW_ p xs k (j + 1) (by simpa using h) hp
  simp only [take_succ_cons, any_cons, aU_]
  by_cases hx : p x = true
  ·simp only [hx, Bool.true_or, if_true]; omega
  ·simp only [hx, Bool.false_or, Bool.false_eq_true, if_false]
   have e : j + 1 + k = j + (k + 1) := by omega
   rw [e] at ih; exact ih
def ff_ (x : ac_) : List af_ → Nat → Bool
 | [], _ => true
 | a :: r, k => (bx_ a.Job 1 4 && bx_ a.Until 0 999999 && ej_ a.Name a.Subs && decide (aC_ x a.Job = (k : Int))) && ff_ x r (k + 1)
theorem ma_ (x : ac_) (ks : List af_) (k : Nat) (h : k < ks.length) : ff_ x (ks.drop k) k = ((bx_ ks[k].Job 1 4 && bx_ ks[k].Until 0 999999 && ej_ ks[k].Name ks[k].Subs && decide (aC_ x ks[k].Job = (k : Int))) && ff_ x (ks.drop (k + 1)) (k + 1)) := by
 rw [drop_eq_getElem_cons h]; rfl
theorem k4_ (x : ac_) (ks : List af_) (k : Nat) (h : ks.length ≤ k) : ff_ x (ks.drop k) k = true := by
 rw [drop_eq_nil_of_le h]; rfl
theorem o7_ (x : ac_) (k : Nat) (h : k < x.Asks.length) : decide (aC_ x x.Asks[k].Job = (k : Int)) = !((x.Asks.take k).map af_.Job).contains x.Asks[k].Job := by
 have hf := kW_ (fun a : af_ => decide (a.Job = x.Asks[k].Job)) x.Asks k 0 h (by simp)
 have hc : ((x.Asks.take k).map af_.Job).contains x.Asks[k].Job = (x.Asks.take k).any (fun a : af_ => decide (a.Job = x.Asks[k].Job)) := by
  generalize x.Asks.take k = l
  induction l with
  | nil => rfl
  | cons a l ih =>
   simp only [map_cons, contains_cons, any_cons, ih]
   congr 1
   by_cases q : a.Job = x.Asks[k].Job
   ·simp [q]
   ·have q' : ¬ x.Asks[k].Job = a.Job := fun e => q e.symm
    simp [q, q']
 rw [hc]
 unfold aC_
 by_cases q : (x.Asks.take k).any (fun a : af_ => decide (a.Job = x.Asks[k].Job)) = true
 ·rw [if_pos q] at hf
  rw [q]; simp only [Bool.not_true, decide_eq_false_iff_not]; omega
 ·rw [if_neg q] at hf
  have q' : (x.Asks.take k).any (fun a : af_ => decide (a.Job = x.Asks[k].Job)) = false := by simpa using q
  rw [q']; simp only [Bool.not_false, decide_eq_true_eq]; omega
theorem kU_ (x : ac_) : ∀ (n k : Nat), x.Asks.length - k = n → cj_ ((x.Asks.take k).map af_.Job) (x.Asks.drop k) = ff_ x (x.Asks.drop k) k
 | 0, k, hn => by rw [jy_ _ _ (by omega), k4_ _ _ _ (by omega)]
 | n + 1, k, hn => by
  have hlt : k < x.Asks.length := by omega
  rw [kK_ _ k hlt, ma_ _ _ k hlt, kU_ x n (k + 1) (by omega), o7_ x k hlt]
  cases bx_ x.Asks[k].Job 1 4 <;> cases bx_ x.Asks[k].Until 0 999999 <;> cases ej_ x.Asks[k].Name x.Asks[k].Subs <;> cases ((x.Asks.take k).map af_.Job).contains x.Asks[k].Job <;> rfl
theorem dG_ : ∀ (l : List Int), l.Nodup → ∀ v, l.count v ≤ 1
 | [], _, v => by simp
 | a :: l, h, v => by
  have h2 := nodup_cons.1 h
  have ih := dG_ l h2.2 v
  rw [count_cons]
  by_cases e : a = v
  ·subst e
   have : l.count a = 0 := count_eq_zero.2 h2.1
   simp [this]
  ·simp [e]; exact ih
theorem jY_ : ∀ (l : List Int), (∀ x ∈ l, 1 ≤ x ∧ x ≤ 4) → l.length = l.count 1 + l.count 2 + l.count 3 + l.count 4
 | [], _ => by simp
 | a :: l, h => by
  have ih := jY_ l (fun x hx => h x (by simp [hx]))
  have ha := h a (by simp)
  simp only [count_cons, lc_, ih]
  have : a = 1 ∨ a = 2 ∨ a = 3 ∨ a = 4 := by omega
  rcases this with e | e | e | e <;> subst e <;> simp <;> omega
theorem nF_ (l : List Int) (h1 : l.Nodup) (h2 : ∀ x ∈ l, 1 ≤ x ∧ x ≤ 4) : l.length ≤ 4 := by
 have e := jY_ l h2
 have a1 := dG_ l h1 1
 have a2 := dG_ l h1 2
 have a3 := dG_ l h1 3
 have a4 := dG_ l h1 4
 omega
theorem jP_ : ∀ (r : List af_) (pre : List Int), cj_ pre r = true → pre.Nodup → (∀ x ∈ pre, 1 ≤ x ∧ x ≤ 4) → pre.length + r.length ≤ 4
 | [], pre, _, h1, h2 => by simpa using nF_ pre h1 h2
 | a :: r, pre, h, h1, h2 => by
  simp only [cj_, Bool.and_eq_true] at h
  obtain ⟨⟨⟨⟨g1, g2⟩, _⟩, _⟩, g3⟩ := h
  have g2' : a.Job ∉ pre := by simpa using g2
  have g1' : 1 ≤ a.Job ∧ a.Job ≤ 4 := by simpa [bx_] using g1
  have := jP_ r (pre ++ [a.Job]) g3 (by
   rw [nodup_append]
   refine ⟨h1, by simp, ?_⟩
   intro x hx y hy e
   simp at hy; subst hy e; exact g2' hx) (by
   intro x hx
   rcases mem_append.1 hx with q | q
   ·exact h2 x q
   ·simp at q; subst q; exact g1')
  simp at this ⊢; omega
def f8_ (x : ac_) : Bool := !decide (16 < (x.Held.length : Int)) && !decide (4 < (x.Asks.length : Int)) && ck_ [] x.Held && ff_ x x.Asks 0
theorem ny_ (x : ac_) : f8_ x = cE_ x := by
 have e := kU_ x x.Asks.length 0 (by omega)
 simp only [take_zero, map_nil, drop_zero] at e
 unfold f8_ cE_ fV_
 rw [← e]
 by_cases q : cj_ [] x.Asks = true
 ·have := jP_ x.Asks [] q (by simp) (by simp)
  have h4 : ¬ (4 < (x.Asks.length : Int)) := by simp at this; omega
  simp [q, h4]
 ·have q' : cj_ [] x.Asks = false := by simpa using q
  simp [q']
theorem k8_ {α : Type} (p : α → Bool) (hs : List α) (k c : Nat) (h : c < k) (hk : k ≤ hs.length) : ((hs.take k).drop c).any p = (p (hs[c]'(by omega)) || ((hs.take k).drop (c + 1)).any p) := by
 rw [drop_eq_getElem_cons (by simp; omega)]
 simp
theorem my_ {α : Type} (p : α → Bool) (hs : List α) (k c : Nat) (h : k ≤ c) : ((hs.take k).drop c).any p = false := by
 rw [drop_eq_nil_of_le (by simp; omega)]; rfl
def c32 : LC :=
 .q [.o [.bx 1 32 0, .f 2], .q [.o [.fa 9 0 1, .ln 10 9, .ll 11 10, .bk 12 .gtr false 11 16, .m 13 12, .gf 14 13 false 1 1, .gn 15 13 false 14, .g 16 13 false (.lenSl (.tmp 15)), .g 17 13 false (.bin .gtr false (.tmp 16)
 (.const (.int .i64 4))), .pt 18 13 17], .k 18 (.q [.o [.f 2], .ret]) .skip], .q [.o [.ki 3 0], .block 0 (.loop (.q [.q [.o [.m 19 3, .fa 20 0 1, .ln 21 20, .ll 22 21, .bb 23 .lss false 19 22], .k 23 .skip (.exit 0)],
 .block 1 (.q [.o [.fa 26 0 1, .ln 27 26, .m 28 3, .ia 29 4 27 28, .ld 30 4 29, .s 4 (.alloc 74 (.agg #[.int .i64 0, .int .i64 0, .string ⟨#[]⟩, .slice none 0 0])), .st 4 4 30], .q [.o [.fa 31 0 4, .ln 32 31, .c1 33 52
 32, .nt 34 33, .m 35 34, .gf 36 35 false 1 4, .gn 37 35 false 36, .g 38 35 false (.call 66 [.tmp 37, .const (.int .i64 1), .const (.int .i64 9)]), .gu 39 35 false 38, .pt 40 35 39, .m 41 40, .gf 42 41 false 2 4, .gn 43
 41 false 42, .gf 44 41 false 3 4, .gn 45 41 false 44, .g 46 41 false (.call 53 [.tmp 43, .tmp 45]), .gu 47 41 false 46, .pt 48 41 47], .k 48 (.q [.o [.f 2], .ret]) .skip], .q [.dops [.m 49 3, .bk 50 .gtr false 49 0, .m
 51 50, .gf 52 51 true 0 1, .gn 53 51 true 52, .gm 54 51 true 3, .g 55 51 true (.bin .sub false (.tmp 54) (.const (.int .i64 1))), .g 56 51 true (.indexAddr 4 (.tmp 53) (.tmp 55)), .gf 57 51 true 0 56, .gn 58 51 true 57,
 .gf 59 51 true 0 4, .gn 60 51 true 59, .g 61 51 true (.bin .gtr false (.tmp 58) (.tmp 60)), .gm 62 51 true 61, .gf 63 62 false 0 1, .gn 64 62 false 63, .gm 65 62 false 3, .g 66 62 false (.bin .sub false (.tmp 65) (.const
 (.int .i64 1))), .g 67 62 false (.indexAddr 4 (.tmp 64) (.tmp 66)), .gf 68 62 false 0 67, .gn 69 62 false 68, .gf 70 62 false 0 4, .gn 71 62 false 70, .g 72 62 false (.bin .eql false (.tmp 69) (.tmp 71)), .gm 73 62 false
 72, .gf 74 73 true 0 1, .gn 75 73 true 74, .gm 76 73 true 3, .g 77 73 true (.bin .sub false (.tmp 76) (.const (.int .i64 1))), .g 78 73 true (.indexAddr 4 (.tmp 75) (.tmp 77)), .gf 79 73 true 2 78, .gn 80 73 true 79, .gf
 81 73 true 0 1, .gn 82 73 true 81, .gm 83 73 true 3, .g 84 73 true (.bin .sub false (.tmp 83) (.const (.int .i64 1))), .g 85 73 true (.indexAddr 4 (.tmp 82) (.tmp 84)), .gf 86 73 true 3 85, .gn 87 73 true 86, .gf 88 73
 true 2 4, .gn 89 73 true 88, .gf 90 73 true 3 4, .gn 91 73 true 90, .g 92 73 true (.call 71 [.tmp 80, .tmp 87, .tmp 89, .tmp 91]), .gu 93 73 true 92, .g 94 62 false (.pick (.tmp 73) (.tmp 93) (.const (.bool false))), .g
 95 51 true (.pick (.tmp 62) (.const (.bool true)) (.tmp 94)), .pf 96 51 95], .k 96 (.q [.o [.f 2], .ret]) .skip], .o [.ki 5 0], .block 2 (.loop (.q [.q [.o [.m 97 5, .m 98 3, .bb 99 .lss false 97 98], .k 99 .skip (.exit
 2)], .block 3 (.q [.o [.fa 102 0 1, .ln 103 102, .m 104 5, .ia 105 4 103 104, .ld 106 4 105, .s 6 (.alloc 74 (.agg #[.int .i64 0, .int .i64 0, .string ⟨#[]⟩, .slice none 0 0])), .st 4 6 106], .o [.fa 107 0 6, .ln 108
 107, .fa 109 0 4, .ln 110 109, .bb 111 .neq false 108 110, .m 112 111, .gf 113 112 true 2 6, .gn 114 112 true 113, .gf 115 112 true 3 6, .gn 116 112 true 115, .gf 117 112 true 2 4, .gn 118 112 true 117, .gf 119 112 true
 3 4, .gn 120 112 true 119, .g 121 112 true (.call 72 [.tmp 114, .tmp 116, .tmp 118, .tmp 120]), .pf 122 112 121], .k 122 (.q [.o [.f 2], .ret]) .skip]), .o [.m 100 5, .bk 101 .add false 100 1, .m 5 101]]))]), .o [.m 24
 3, .bk 25 .add false 24 1, .m 3 25]]))], .q [.o [.ki 7 0], .block 4 (.loop (.q [.q [.o [.m 123 7, .fa 124 1 1, .ln 125 124, .ll 126 125, .bb 127 .lss false 123 126], .k 127 .skip (.exit 4)], .block 5 (.q [.o [.fa 130 1
 1, .ln 131 130, .m 132 7, .ia 133 4 131 132, .ld 134 4 133, .s 8 (.alloc 64 (.agg #[.int .i64 0, .int .i64 0, .string ⟨#[]⟩, .slice none 0 0])), .st 4 8 134], .o [.fa 135 0 8, .ln 136 135, .c1 137 52 136, .nt 138 137, .m
 139 138, .gf 140 139 false 1 8, .gn 141 139 false 140, .g 142 139 false (.call 66 [.tmp 141, .const (.int .i64 0), .const (.int .i64 999999)]), .gu 143 139 false 142, .pt 144 139 143, .m 145 144, .gf 146 145 false 2 8,
 .gn 147 145 false 146, .gf 148 145 false 3 8, .gn 149 145 false 148, .g 150 145 false (.call 53 [.tmp 147, .tmp 149]), .gu 151 145 false 150, .pt 152 145 151, .m 153 152, .gl 154 153 false 2 1, .gf 155 153 false 0 8, .gn
 156 153 false 155, .g 157 153 false (.call 73 [.tmp 154, .tmp 156]), .gm 158 153 false 7, .g 159 153 false (.bin .neq false (.tmp 157) (.tmp 158)), .pt 160 153 159], .k 160 (.q [.o [.f 2], .ret]) .skip]), .o [.m 128 7,
 .bk 129 .add false 128 1, .m 7 129]]))], .o [.t 2], .ret]
def nE_ : LF := ⟨1, 161, c32, [.tmp 2]⟩
theorem vU_ : av_ Tryz.prog Tryz.f32 nE_ := aq_
theorem lo_ (x : ac_) (hx : ac_.sz x ≤ 1048576) (h : List Row) : aa_ Tryz.prog 32 [.agg (ac_.cells x)] h (.val (.bool (cE_ x))) := by
 rw [← ny_]
 refine am_ mixed Tryz.func32 vU_ rfl rfl ?_ h
 have hlenA := ar_ (ac_.sz_Asks hx)
 have hlenH := ar_ (ac_.sz_Held hx)
 have hmA : ∀ a ∈ x.Asks, af_.sz a ≤ 1048576 := fun a ha => b4_ (ac_.sz_Asks hx) ha
 have hmH : ∀ a ∈ x.Held, ab_.sz a ≤ 1048576 := fun a ha => b4_ (ac_.sz_Held hx) ha
 by_cases h16 : 16 < (x.Held.length : Int)
 ·simp (disch := omega) only [nE_, c32, ac_.cells, h16, go_sem, reduceEqDiff, Nat.reduceAdd, ↓reduceIte]
  exact ae_ (by simp [f8_, h16])
 by_cases h4 : 4 < (x.Asks.length : Int)
 ·simp (disch := omega) only [nE_, c32, ac_.cells, h16, h4, go_sem, reduceEqDiff, Nat.reduceAdd, ↓reduceIte]
  exact ae_ (by simp [f8_, h4])
 have hS0 : f8_ x = (ck_ [] x.Held && ff_ x x.Asks 0) := by simp [f8_, h16, h4]
 simp (disch := omega) only [nE_, c32, ac_.cells, h16, h4, go_sem, reduceEqDiff, Nat.reduceAdd, ↓reduceIte]
 refine ay_ (fun n t h => ∃ (k : Nat), t 1 = .ptr 0 1 0 0 ∧ t 3 = .val (.int .i64 k) ∧
  h[0]? = some ⟨32, 2, [[.list 0 4 (x.Held.map ab_.cells), .list 0 4 (x.Asks.map af_.cells)]]⟩ ∧ n = x.Held.length - k ∧ k ≤ x.Held.length ∧ ck_ [] x.Held = ck_ (x.Held.take k) (x.Held.drop k)) x.Held.length ?_ ?_
 ·exact ⟨0, rfl, rfl, rfl, rfl, Nat.zero_le _, rfl⟩
 ·rintro J hJ n t h ⟨k, t1, t3, o0, rfl, hk, hS⟩
  have p0 : ∀ l, (h ++ l)[0]? = some ⟨32, 2, [[.list 0 4 (x.Held.map ab_.cells), .list 0 4 (x.Asks.map af_.cells)]]⟩ := fun l => bt_ o0
  by_cases hlt : k < x.Held.length
  ·rw [kS_ x.Held k hlt] at hS
   simp only [iK_] at hS
   have hck := hmH _ (getElem_mem hlt)
   have hnx : ∀ t', t' 1 = .ptr 0 1 0 0 → t' 3 = .val (.int .i64 (k + 1 : Nat)) → ∀ h' : List Row, h'[0]? = some ⟨32, 2, [[.list 0 4 (x.Held.map ab_.cells), .list 0 4 (x.Asks.map af_.cells)]]⟩ → ck_ [] x.Held = ck_ (x.Held.take (k + 1)) (x.Held.drop (k + 1)) → ∃ m, m < x.Held.length - k ∧ J m t' h' :=
    fun t' e1 e3 h' e0 e => ⟨x.Held.length - (k + 1), by omega, hJ _ _ _ ⟨k + 1, e1, e3, e0, rfl, by omega, e⟩⟩
   by_cases hk0 : k = 0
   ·have hk0' : ((0 : Int) < (k : Int)) = False := eq_false (by omega)
    have hg : (x.Held.take k).getLast? = none := by rw [hk0]; simp
    have hany : (x.Held.take k).any (dX_ x.Held[k]) = false := by rw [show x.Held.take k = [] by rw [hk0]; rfl]; rfl
    have hkk : ¬ ((0 : Int) < (k : Int)) := by omega
    rw [hg, j7_] at hS
    clear hk0 hg
    simp (disch := omega) only [t1, t3, hlt, o0, cV_, go_sem, reduceEqDiff, Nat.reduceAdd, ↓reduceIte]
    repeat' (first
     | exact ad_ _ _
     | (refine ae_ ?_; rw [hS0, hS]; simp only [*, Bool.and_true, Bool.and_false, Bool.false_and, Bool.not_false, Bool.and_self]; done)
     | (
      refine ay_ (fun m t h => t 1 = .ptr 0 1 0 0 ∧ t 3 = .val (.int .i64 k) ∧ t 5 = .val (.int .i64 0) ∧ h[0]? = some ⟨32, 2, [[.list 0 4 (x.Held.map ab_.cells), .list 0 4 (x.Asks.map af_.cells)]]⟩) 0 ⟨by simp [upd, t1], by simp [upd, t3], by simp [upd], p0 _⟩ ?_
      rintro J2 hJ2 m t h ⟨t1, t3, t5, o0⟩
      simp (disch := omega) only [t3, t5, hk0', go_sem, reduceEqDiff, ↓reduceIte]
      refine hnx _ (by simp [upd, t1]) (by simp [upd]) _ o0 ?_
      rw [hS]; simp only [*, Bool.true_and, Bool.not_false, Bool.and_self])
     | simp (disch := omega) only [t3, hk0', go_sem, reduceEqDiff, ↓reduceIte]
     | (refine aa_.call (cx_ _ _) ?_)
     | (refine aa_.q (cx_ _ _) ?_)
     | (refine aa_.call (b3_ _ _ _ _) ?_)
     | (refine aa_.q (b3_ _ _ _ _) ?_)
     | (refine aa_.call (ca_ _ _ (ab_.sz_Name hck) (ar_ (ab_.sz_Subs hck)) _) ?_)
     | (refine aa_.q (ca_ _ _ (ab_.sz_Name hck) (ar_ (ab_.sz_Subs hck)) _) ?_)
     | ((first | (apply bd_; assumption) | (apply be_; assumption) | (apply bo_; assumption) | (apply bp_; assumption)); intro hb; try simp only [hb])
     | ((first | (apply aD_; assumption) | (apply aE_; assumption) | (apply aL_; assumption) | (apply aJ_; assumption)); intro hb; try simp only [hb])
     | ((first | (apply g5_; assumption) | (apply g0_; assumption) | (apply iG_; assumption) | (apply iF_; assumption)); intro hb; try simp only [hb])
     | ((first | apply aF_ | apply aM_ | apply an_ | apply ao_ | apply d1_ | apply eu_) <;> intro hb <;> (try simp only [hb]) <;> (first | have hp := a4_ hb | have hp := a3_ hb | have hp := a1_ hb | have hp := aZ_ hb | skip)))
   ·have hk0' : ((0 : Int) < (k : Int)) = True := eq_true (by omega)
    have hkp : ((k : Int) - 1) = ((k - 1 : Nat) : Int) := by omega
    have hkl : k - 1 < x.Held.length := by omega
    rw [kQ_ x.Held k hlt (by omega), jO_] at hS
    have hord' : (!fp_ x.Held[k - 1] x.Held[k]) = (decide (x.Held[k - 1].Job > x.Held[k].Job) || ((x.Held[k - 1].Job == x.Held[k].Job) && !gl_ x.Held[k - 1].Name.data.toList (bss x.Held[k - 1].Subs) x.Held[k].Name.data.toList (bss x.Held[k].Subs))) := m5_ x.Held[k - 1] x.Held[k]
    generalize fp_ x.Held[k - 1] x.Held[k] = ord at hS hord'
    simp (disch := omega) only [t1, t3, hlt, o0, cV_, go_sem, reduceEqDiff, Nat.reduceAdd, ↓reduceIte]
    repeat' (first
     | exact ad_ _ _
     | (refine ae_ ?_; rw [hS0, hS]; simp only [*, Bool.true_and, Bool.and_false, Bool.false_and, Bool.and_self]; done)
     | (
      refine ae_ ?_
      rw [hS0, hS]
      have hord2 : ord = false := by
       cases ord
       ·rfl
       ·exfalso; revert hord'; simp only [*, Bool.not_true]; simp
      rw [hord2]
      simp only [*, Bool.and_false, Bool.false_and, Bool.and_self]
      done)
     | (
      have hord2 : ord = true := by
       cases ord
       ·exfalso; revert hord'; simp only [*, Bool.not_false]; simp
       ·rfl
      refine ay_ (fun m t h' => ∃ c : Nat, t 1 = .ptr 0 1 0 0 ∧ t 3 = .val (.int .i64 k) ∧ t 4 = .ptr h.length 1 0 0 ∧ t 5 = .val (.int .i64 c) ∧ h'[0]? = some ⟨32, 2, [[.list 0 4 (x.Held.map ab_.cells), .list 0 4 (x.Asks.map af_.cells)]]⟩ ∧ h'[h.length]? = some ⟨74, 4, [ab_.cells x.Held[k]]⟩ ∧ m = k - c ∧ c ≤ k ∧ (x.Held.take k).any (dX_ x.Held[k]) = ((x.Held.take k).drop c).any (dX_ x.Held[k])) k ⟨0, by simp [upd, t1], by simp [upd, t3], by simp [upd], by simp [upd], p0 _, by rw [cW_]; rfl, by omega, by omega, by simp⟩ ?_
      rintro J2 hJ2 m t h' ⟨c, t1, t3, t4, t5, o0, oL, rfl, hc, hA⟩
      have q0 : ∀ l, (h' ++ l)[0]? = some ⟨32, 2, [[.list 0 4 (x.Held.map ab_.cells), .list 0 4 (x.Asks.map af_.cells)]]⟩ := fun l => bt_ o0
      have qL : ∀ l, (h' ++ l)[h.length]? = some ⟨74, 4, [ab_.cells x.Held[k]]⟩ := fun l => bt_ oL
      simp only [cV_] at oL qL
      by_cases hck2 : c < k
      ·have hcl : c < x.Held.length := by omega
       rw [k8_ _ _ _ _ hck2 (by omega)] at hA
       have hw := i8_ x.Held[c].Name x.Held[c].Subs x.Held[k].Name x.Held[k].Subs
       have hcx := hmH _ (getElem_mem hcl)
       by_cases hj : x.Held[c].Job = x.Held[k].Job
       ·have hj' : (x.Held[c].Job = x.Held[k].Job) = True := eq_true hj
        simp (disch := omega) only [t1, t3, t4, t5, hck2, o0, qL, cV_, hj', go_sem, reduceEqDiff, Nat.reduceAdd, ↓reduceIte]
        exact ⟨k - (c + 1), by omega, hJ2 _ _ _ ⟨c + 1, by simp [upd, t1], by simp [upd, t3], by simp [upd, t4], by simp [upd], q0 _, by simp only [cV_]; exact qL _, rfl, by omega, by rw [hA]; simp [dX_, hj]⟩⟩
       ·have hj' : (x.Held[c].Job = x.Held[k].Job) = False := eq_false hj
        simp (disch := omega) only [t1, t3, t4, t5, hck2, o0, qL, cV_, hj', go_sem, reduceEqDiff, Nat.reduceAdd, ↓reduceIte]
        refine aa_.call (bV_ _ _ _ _ (ar_ (ab_.sz_Subs hcx)) (ar_ (ab_.sz_Subs hck)) _) ?_
        rw [hw]
        by_cases hww : way x.Held[k].Name x.Held[k].Subs x.Held[c].Name x.Held[c].Subs = true
        ·simp (disch := omega) only [hww, go_sem, reduceEqDiff, ↓reduceIte]
         exact ae_ (by rw [hS0, hS, hA]; simp [dX_, hj, hww])
        ·have hww' : way x.Held[k].Name x.Held[k].Subs x.Held[c].Name x.Held[c].Subs = false := by simpa using hww
         simp (disch := omega) only [t5, hww', go_sem, reduceEqDiff, ↓reduceIte]
         exact ⟨k - (c + 1), by omega, hJ2 _ _ _ ⟨c + 1, by simp [upd, t1], by simp [upd, t3], by simp [upd, t4], by simp [upd], q0 _, by simp only [cV_]; exact qL _, rfl, by omega, by rw [hA]; simp [dX_, hj, hww']⟩⟩
      ·rw [my_ _ _ _ _ (by omega)] at hA
       simp (disch := omega) only [t3, t5, hck2, go_sem, reduceEqDiff, ↓reduceIte]
       refine hnx _ (by simp [upd, t1]) (by simp [upd]) _ o0 ?_
       rw [hS, hord2, hA]; simp only [*, Bool.true_and, Bool.not_false, Bool.and_self])
     | simp (disch := omega) only [t1, t3, p0, hk0', hkp, go_sem, reduceEqDiff, ↓reduceIte]
     | (refine aa_.call (cx_ _ _) ?_)
     | (refine aa_.q (cx_ _ _) ?_)
     | (refine aa_.call (b3_ _ _ _ _) ?_)
     | (refine aa_.q (b3_ _ _ _ _) ?_)
     | (refine aa_.call (ca_ _ _ (ab_.sz_Name hck) (ar_ (ab_.sz_Subs hck)) _) ?_)
     | (refine aa_.q (ca_ _ _ (ab_.sz_Name hck) (ar_ (ab_.sz_Subs hck)) _) ?_)
     | (refine aa_.call (gE_ _ _ _ _ (ab_.sz_Subs (hmH _ (getElem_mem hkl))) (ab_.sz_Subs hck) _) ?_)
     | (refine aa_.q (gE_ _ _ _ _ (ab_.sz_Subs (hmH _ (getElem_mem hkl))) (ab_.sz_Subs hck) _) ?_)
     | ((first | (apply bd_; assumption) | (apply be_; assumption) | (apply bo_; assumption) | (apply bp_; assumption)); intro hb; try simp only [hb])
     | ((first | (apply aD_; assumption) | (apply aE_; assumption) | (apply aL_; assumption) | (apply aJ_; assumption)); intro hb; try simp only [hb])
     | ((first | (apply g5_; assumption) | (apply g0_; assumption) | (apply iG_; assumption) | (apply iF_; assumption)); intro hb; try simp only [hb])
     | ((first | apply aF_ | apply aM_ | apply an_ | apply ao_ | apply d1_ | apply eu_) <;> intro hb <;> (try simp only [hb]) <;> (first | have hp := a4_ hb | have hp := a3_ hb | have hp := a1_ hb | have hp := aZ_ hb | skip)))
  ·rw [j9_ _ _ (by omega)] at hS
   have hS1 : f8_ x = ff_ x x.Asks 0 := by rw [hS0, hS, Bool.true_and]
   simp (disch := omega) only [t1, t3, hlt, o0, go_sem, reduceEqDiff, ↓reduceIte]
   refine ay_ (fun n t h => ∃ (k : Nat), t 1 = .ptr 0 1 0 0 ∧ t 7 = .val (.int .i64 k) ∧
    h[0]? = some ⟨32, 2, [[.list 0 4 (x.Held.map ab_.cells), .list 0 4 (x.Asks.map af_.cells)]]⟩ ∧ n = x.Asks.length - k ∧ k ≤ x.Asks.length ∧ ff_ x x.Asks 0 = ff_ x (x.Asks.drop k) k) x.Asks.length ⟨0, by simp [upd, t1], by simp [upd], o0, rfl, Nat.zero_le _, rfl⟩ ?_
   rintro J2 hJ2 n t h ⟨k, t1, t7, o0, rfl, hk, hT⟩
   have p0 : ∀ l, (h ++ l)[0]? = some ⟨32, 2, [[.list 0 4 (x.Held.map ab_.cells), .list 0 4 (x.Asks.map af_.cells)]]⟩ := fun l => bt_ o0
   by_cases hlt : k < x.Asks.length
   ·rw [ma_ _ _ _ hlt] at hT
    have hck := hmA _ (getElem_mem hlt)
    have hcall : ∀ (j : Int) (H : List Row), aa_ Tryz.prog 73 [.agg [.list 0 4 (x.Held.map ab_.cells), .list 0 4 (x.Asks.map af_.cells)], .val (.int .i64 j)] H (.val (.int .i64 (aC_ x j))) := fun j H => e2_ x j hlenA H
    simp (disch := omega) only [t1, t7, hlt, o0, dr_, go_sem, reduceEqDiff, Nat.reduceAdd, ↓reduceIte]
    repeat' (first
     | exact ad_ _ _
     | (refine ae_ ?_; rw [hS1, hT]; simp only [*, Bool.and_false, Bool.false_and, Bool.and_self]; done)
     | (exact ⟨x.Asks.length - (k + 1), by omega, hJ2 _ _ _ ⟨k + 1, by simp [upd, t1], by simp [upd], p0 _, rfl, by omega, by rw [hT]; simp only [*, Bool.true_and, Bool.and_self]⟩⟩)
     | simp (disch := omega) only [t1, t7, p0, go_sem, reduceEqDiff, Nat.reduceAdd, ↓reduceIte]
     | (refine aa_.call (cx_ _ _) ?_)
     | (refine aa_.q (cx_ _ _) ?_)
     | (refine aa_.call (b3_ _ _ _ _) ?_)
     | (refine aa_.q (b3_ _ _ _ _) ?_)
     | (refine aa_.call (ca_ _ _ (af_.sz_Name hck) (ar_ (af_.sz_Subs hck)) _) ?_)
     | (refine aa_.q (ca_ _ _ (af_.sz_Name hck) (ar_ (af_.sz_Subs hck)) _) ?_)
     | (refine aa_.call (hcall _ _) ?_)
     | (refine aa_.q (hcall _ _) ?_)
     | ((first | (apply bd_; assumption) | (apply be_; assumption) | (apply bo_; assumption) | (apply bp_; assumption)); intro hb; try simp only [hb])
     | ((first | (apply aD_; assumption) | (apply aE_; assumption) | (apply aL_; assumption) | (apply aJ_; assumption)); intro hb; try simp only [hb])
     | ((first | (apply g5_; assumption) | (apply g0_; assumption) | (apply iG_; assumption) | (apply iF_; assumption)); intro hb; try simp only [hb])
     | ((first | apply aF_ | apply aM_ | apply an_ | apply ao_ | apply d1_ | apply eu_) <;> intro hb <;> (try simp only [hb]) <;> (first | have hp := a4_ hb | have hp := a3_ hb | have hp := a1_ hb | have hp := aZ_ hb | skip)))
   ·simp (disch := omega) only [t1, t7, hlt, o0, go_sem, reduceEqDiff, ↓reduceIte]
    exact ae_ (by rw [hS1, hT, k4_ _ _ _ (by omega)])
def sameKey (x y : ab_) : Prop := x.Job = y.Job ∧ x.Name = y.Name ∧ x.Subs = y.Subs
theorem l3_ {α : Type} (p : α → Bool) : ∀ (xs : List α) (k : Nat), (aU_ p xs k = -1 ∧ xs.find? p = none) ∨ (∃ i, ∃ h : i < xs.length, aU_ p xs k = ((k + i : Nat) : Int) ∧ xs.find? p = some xs[i])
 | [], k => .inl ⟨rfl, rfl⟩
 | x :: xs, k => by
  by_cases h : p x = true
  ·right
   exact ⟨0, by simp, by simp [aU_, h], by simp [h]⟩
  ·rcases l3_ p xs (k + 1) with ⟨h1, h2⟩ | ⟨i, hi, h1, h2⟩
   ·left; simp [aU_, h, h1, h2]
   ·right
    refine ⟨i + 1, by simpa using hi, ?_, ?_⟩
    ·simp only [aU_, h, Bool.false_eq_true, if_false]; rw [h1]; congr 1; omega
    ·simp [h, h2]
theorem sameKey.symm {a b : ab_} (h : sameKey a b) : sameKey b a := ⟨h.1.symm, h.2.1.symm, h.2.2.symm⟩
theorem sameKey.trans {a b c : ab_} (h : sameKey a b) (k : sameKey b c) : sameKey a c := ⟨h.1.trans k.1, h.2.1.trans k.2.1, h.2.2.trans k.2.2⟩
end Go.Proofs.YtodgohgdnmifaaaGreatDoor
