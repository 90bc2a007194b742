/-
 Contracts of functions. Conditions: as each theorem says.
-/
import Derived.Test.YtkddmakjmjmokaaFnRC
import Derived.Test.YtkddmakjmjmokaaAwPred
import Derived.Test.YtkddmakjmjmokaaShelfR
namespace Go.Proofs.Ytkddmakjmjmokaa
open Nat (reduceEqDiff reduceLeDiff)
open List
open Go.AW
set_option linter.unusedVariables false
set_option linter.unusedSimpArgs false
set_option maxRecDepth 4000
def bl_ (s : ByteArray) : Bool := decide ((s.size : Int) ≤ 11) && !(aO_ s).any b8_
def cb_ (b : af_) (r : am_) : Bool := decide ((r.Cells.length : Int) = (b.Columns.length : Int)) && (match r.Cells with | [] => false | c :: _ => !decide (c = txt [])) && r.Cells.all bl_
def c50 : LC :=
 .q [.o [.f 2], .o [.m 3 0, .s 4 (.bin .lss false (.tmp 3) (.const (.int .i32 32))), .m 5 4, .gm 6 5 false 0, .g 7 5 false (.bin .gtr false (.tmp 6) (.const (.int .i32 126))), .pt 8 5 7, .m 9 8, .gm 10 9 false 0, .g 11 9
 false (.bin .eql false (.tmp 10) (.const (.int .i32 94))), .pt 12 9 11, .m 2 12], .ret]
def gM_ : LF := ⟨1, 13, c50, [.tmp 2]⟩
theorem l1_ : aF_ Try.prog Try.f50 gM_ := ax_
theorem eX_ (x : Nat) (hx : x ≤ 1114111) (h : List Row) : aa_ Try.prog 50 [.val (.int .i32 (x : Int))] h (.val (.bool (dl_ x))) := by
 refine as_ mixed Try.func50 l1_ rfl rfl ?_ h
 by_cases h1 : (x : Int) < 32
 ·have h1' : ((x : Int) < 32) = True := eq_true h1
  simp (disch := omega) only [gM_, c50, h1', go_sem, reduceEqDiff, reduceCtorEq, ↓reduceIte]
  exact ah_ (by simp [dl_, b8_, h1])
 have h1' : ((x : Int) < 32) = False := eq_false h1
 by_cases h2 : 126 < (x : Int)
 ·have h2' : (126 < (x : Int)) = True := eq_true h2
  simp (disch := omega) only [gM_, c50, h1', h2', go_sem, reduceEqDiff, reduceCtorEq, ↓reduceIte]
  exact ah_ (by simp [dl_, b8_, h2])
 have h2' : (126 < (x : Int)) = False := eq_false h2
 by_cases h3 : (x : Int) = 94
 ·have h3' : ((x : Int) = 94) = True := eq_true h3
  simp (disch := omega) only [gM_, c50, h1', h2', h3', go_sem, reduceEqDiff, reduceCtorEq, ↓reduceIte]
  exact ah_ (by simp [dl_, b8_, h3])
 have h3' : ((x : Int) = 94) = False := eq_false h3
 simp (disch := omega) only [gM_, c50, h1', h2', h3', go_sem, reduceEqDiff, reduceCtorEq, ↓reduceIte]
 exact ah_ (by simp [dl_, b8_, h1, h2, h3])
theorem b9_ (s : ByteArray) (h : List Row) : aa_ Try.prog 49 [.val (.string s), .fn 50 [] []] h (.val (.bool ((aO_ s).any b8_))) := by
 rw [← je_]
 exact gA_ dl_ (fun s w hp => Any.strings_ContainsFunc_grows Try.containsF 50 #[] (enters_of Try.func50 (by kernel_rfl) rfl) dl_ s w hp) eX_ s h
def c43 : LC :=
 .q [.o [.f 2], .o [.m 3 0, .s 4 (.lenStr (.tmp 3)), .bk 5 .leq false 4 11, .m 6 5, .gm 7 6 true 0, .g 8 6 true (.call 49 [.tmp 7, .func 50]), .gu 9 6 true 8, .pf 10 6 9, .m 2 10], .ret]
def kW_ : LF := ⟨1, 11, c43, [.tmp 2]⟩
theorem lT_ : aF_ Try.prog Try.f43 kW_ := ax_
theorem eb_ (s : ByteArray)  (h : List Row) : aa_ Try.prog 43 [.val (.string s)] h (.val (.bool (bl_ s))) := by
 refine as_ mixed Try.func43 lT_ rfl rfl ?_ h
 simp (disch := omega) only [kW_, c43, go_sem, reduceCtorEq, ↓reduceIte]
 repeat' (first
  | exact al_ _ _
  | (refine ah_ ?_; simp only [bl_, *, Bool.true_and, Bool.false_and, decide_true, decide_false]; done)
  | (refine ah_ ?_; simp_all [bl_]; done)
  | simp (disch := omega) only [go_sem, reduceEqDiff, reduceCtorEq, ↓reduceIte]
  | (refine aa_.call (b9_ s _) ?_)
  | (refine aa_.q (b9_ s _) ?_)
  | ((first | (apply b3_; assumption) | (apply b2_; assumption) | (apply cD_; assumption) | (apply cC_; assumption)); intro hb; try simp only [hb])
  | ((first | (apply a1_; assumption) | (apply a3_; assumption) | (apply bj_; assumption) | (apply bi_; assumption)); intro hb; try simp only [hb])
  | ((first | apply a4_ | apply bd_ | apply aC_ | apply aJ_) <;> intro hb <;> (try simp only [hb]) <;> (first | have hp := bK_ hb | have hp := bE_ hb | have hp := bG_ hb | have hp := bJ_ hb | skip)))
def c42 : LC :=
 .q [.o [.f 2], .o [.m 3 0, .c1 4 43 3, .nt 5 4, .m 2 5], .ret]
def k2_ : LF := ⟨1, 6, c42, [.tmp 2]⟩
theorem mb_ : aF_ Try.prog Try.f42 k2_ := ax_
theorem ff_ (s : ByteArray)  (h : List Row) : aa_ Try.prog 42 [.val (.string s)] h (.val (.bool (!bl_ s))) := by
 refine as_ mixed Try.func42 mb_ rfl rfl ?_ h
 simp (disch := omega) only [k2_, c42, go_sem, reduceCtorEq, ↓reduceIte]
 repeat' (first
  | exact al_ _ _
  | simp (disch := omega) only [go_sem, ↓reduceIte]
  | (refine aa_.call (eb_ _ _) ?_)
  | (refine aa_.q (eb_ _ _) ?_)
  | ((first | (apply b3_; assumption) | (apply b2_; assumption) | (apply cD_; assumption) | (apply cC_; assumption)); intro hb; try simp only [hb])
  | ((first | (apply a1_; assumption) | (apply a3_; assumption) | (apply bj_; assumption) | (apply bi_; assumption)); intro hb; try simp only [hb])
  | ((first | apply a4_ | apply bd_ | apply aC_ | apply aJ_) <;> intro hb <;> (try simp only [hb]) <;> (first | have hp := bK_ hb | have hp := bE_ hb | have hp := bG_ hb | have hp := bJ_ hb | skip)))
def c30 : LC :=
 .q [.o [.bx 2 27 0, .bx 3 35 1, .f 4], .o [.fa 5 0 3, .ln 6 5, .ll 7 6, .fa 8 2 2, .ln 9 8, .ll 10 9, .bb 11 .eql false 7 10, .m 12 11, .gf 13 12 true 0 3, .gn 14 12 true 13, .g 15 12 true (.indexAddr 1 (.tmp 14) (.const
 (.int .i64 0))), .gn 16 12 true 15, .g 17 12 true (.bin .neq false (.tmp 16) (.const (.string ⟨#[]⟩))), .pf 18 12 17, .m 19 18, .gf 20 19 true 0 3, .gn 21 19 true 20, .g 22 19 true (.call 25 [.tmp 21, .func 42]), .gu 23
 19 true 22, .pf 24 19 23, .m 4 24], .ret]
def ir_ : LF := ⟨2, 25, c30, [.tmp 4]⟩
theorem mn_ : aF_ Try.prog Try.f30 ir_ := ax_
def c41 : LC :=
 .q [.o [.f 2], .q [.o [.ki 3 0], .block 0 (.loop (.q [.q [.o [.m 4 3, .m 5 0, .s 6 (.lenStr (.tmp 5)), .bb 7 .lss false 4 6], .k 7 .skip (.exit 0)], .block 1 (.q [.o [.m 10 0, .m 11 3, .s 12 (.indexStr (.tmp 10) (.tmp
 11)), .s 13 (.bin .lss false (.tmp 12) (.const (.int .u8 32))), .m 14 13, .gm 15 14 false 0, .gm 16 14 false 3, .g 17 14 false (.indexStr (.tmp 15) (.tmp 16)), .g 18 14 false (.bin .gtr false (.tmp 17) (.const (.int .u8
 126))), .pt 19 14 18, .m 20 19, .gm 21 20 false 0, .gm 22 20 false 3, .g 23 20 false (.indexStr (.tmp 21) (.tmp 22)), .g 24 20 false (.bin .eql false (.tmp 23) (.const (.int .u8 94))), .pt 25 20 24], .k 25 (.q [.o [.f
 2], .ret]) .skip]), .o [.m 8 3, .bk 9 .add false 8 1, .m 3 9]]))], .o [.m 26 0, .s 27 (.lenStr (.tmp 26)), .bk 28 .leq false 27 11, .m 2 28], .ret]
def kP_ : LF := ⟨1, 29, c41, [.tmp 2]⟩
theorem mi_ : aF_ Try.prog Try.f41 kP_ := ax_
def c29 : LC :=
 .q [.o [.bx 2 27 0, .bx 3 35 1, .f 4], .q [.o [.fa 6 0 3, .ln 7 6, .ll 8 7, .fa 9 2 2, .ln 10 9, .ll 11 10, .bb 12 .neq false 8 11, .m 13 12, .gf 14 13 false 0 3, .gn 15 13 false 14, .g 16 13 false (.indexAddr 1 (.tmp
 15) (.const (.int .i64 0))), .gn 17 13 false 16, .g 18 13 false (.bin .eql false (.tmp 17) (.const (.string ⟨#[]⟩))), .pt 19 13 18], .k 19 (.q [.o [.f 4], .ret]) .skip], .q [.o [.ki 5 0], .block 0 (.loop (.q [.q [.o [.m
 20 5, .fa 21 0 3, .ln 22 21, .ll 23 22, .bb 24 .lss false 20 23], .k 24 .skip (.exit 0)], .block 1 (.q [.o [.fa 27 0 3, .ln 28 27, .m 29 5, .ia 30 1 28 29, .ln 31 30, .c1 32 41 31, .nt 33 32], .k 33 (.q [.o [.f 4],
 .ret]) .skip]), .o [.m 25 5, .bk 26 .add false 25 1, .m 5 26]]))], .o [.t 4], .ret]
def ip_ : LF := ⟨2, 34, c29, [.tmp 4]⟩
theorem lP_ : aF_ Try.prog Try.f29 ip_ := ax_
def c14 : LC :=
 .q [.o [.bx 2 27 0, .bx 3 35 1, .f 4], .o [.ld 5 4 2, .c1 6 9 5, .m 7 6, .gl 8 7 true 4 2, .gl 9 7 true 1 3, .g 10 7 true (.call 30 [.tmp 8, .tmp 9]), .pf 11 7 10, .m 4 11], .ret]
def lJ_ : LF := ⟨2, 12, c14, [.tmp 4]⟩
theorem lV_ : aF_ Try.prog Try.f14 lJ_ := ax_
theorem gw_ (b : af_) (r : am_) (hb : af_.sz b ≤ 1048576) (hr : am_.sz r ≤ 1048576) (hpos : 0 < b.Columns.length) (h : List Row) : aa_ Try.prog 30 [.agg (af_.cells b), .agg (am_.cells r)] h (.val (.bool (cb_ b r))) := by
 refine as_ mixed Try.func30 mn_ rfl rfl ?_ h
 have hc := bB_ (am_.sz_Cells hr)
 by_cases h1 : (r.Cells.length : Int) = (b.Columns.length : Int)
 case neg =>
  have h1' : ((r.Cells.length : Int) = (b.Columns.length : Int)) = False := eq_false h1
  simp (disch := omega) only [ir_, c30, af_.cells, am_.cells, h1', go_sem, reduceEqDiff, Nat.reduceAdd, ↓reduceIte]
  exact ah_ (by simp [cb_, h1])
 have h1' : ((r.Cells.length : Int) = (b.Columns.length : Int)) = True := eq_true h1
 obtain ⟨c0, cs, hcs⟩ : ∃ c0 cs, r.Cells = c0 :: cs := by
  cases q : r.Cells with
  | nil => rw [q] at h1; simp at h1; omega
  | cons c cs => exact ⟨c, cs, rfl⟩
 have h0 : r.Cells[0]? = some c0 := by rw [hcs]; rfl
 have hl0 : 0 < r.Cells.length := by rw [hcs]; simp
 have hg0 : r.Cells[0] = c0 := by simp [hcs]
 by_cases h2 : c0 = txt []
 ·have h2' : (c0 = txt []) = True := eq_true h2
  simp (disch := omega) only [ir_, c30, af_.cells, am_.cells, h1', hg0, h2', go_sem, reduceEqDiff, Nat.reduceAdd, Int.reduceLE, ↓reduceIte]
  exact ah_ (by simp [cb_, hcs, h2])
 have h2' : (c0 = txt []) = False := eq_false h2
 simp (disch := omega) only [ir_, c30, af_.cells, am_.cells, h1', hg0, h2', go_sem, reduceEqDiff, Nat.reduceAdd, Int.reduceLE, ↓reduceIte]
 refine aa_.call (bL_ r.Cells (fun s => !bl_ s) 42 hc (by kernel_rfl) (fun s _ h => ff_ s h) _) ?_
 have e : (r.Cells.any fun s => !bl_ s) = !r.Cells.all bl_ := by rw [← hM_, Bool.not_not]
 rw [e]
 simp (disch := omega) only [go_sem, reduceEqDiff, ↓reduceIte]
 refine ah_ ?_
 have hR : cb_ b r = r.Cells.all bl_ := by
  unfold cb_
  rw [decide_eq_true h1, hcs]
  simp [h2]
 rw [hR]
theorem fo_ (s : ByteArray) (hs : s.size ≤ 1048576) (h : List Row) : aa_ Try.prog 41 [.val (.string s)] h (.val (.bool (bl_ s))) := by
 refine as_ mixed Try.func41 mi_ rfl rfl ?_ h
 have hl := aU_ s
 simp (disch := omega) only [kP_, c41, go_sem]
 refine bb_ (fun m t h => ∃ (k : Nat), t 0 = .val (.string s) ∧ t 3 = .val (.int .i64 k) ∧ m = s.size - k ∧ k ≤ s.size ∧ (aO_ s).any b8_ = ((aO_ s).drop k).any b8_) s.size ⟨0, rfl, rfl, rfl, Nat.zero_le _, rfl⟩ ?_
 rintro J hJ m t h ⟨k, t0, t3, rfl, hk, hS⟩
 by_cases hlt : k < s.size
 case neg =>
  rw [drop_eq_nil_of_le (by omega)] at hS
  simp (disch := omega) only [t0, t3, hlt, go_sem, reduceEqDiff, reduceCtorEq, ↓reduceIte]
  refine ah_ ?_
  simp [bl_, hS]
 have hkl : k < (aO_ s).length := by omega
 rw [drop_eq_getElem_cons hkl, any_cons] at hS
 have bad : b8_ (aO_ s)[k] = true → bl_ s = false := fun q => by
  rw [q] at hS; simp [bl_, hS]
 by_cases h1 : (aO_ s)[k] < 32
 ·have h1' : ((aO_ s)[k] < 32) = True := eq_true h1
  simp (disch := omega) only [t0, t3, hlt, h1', go_sem, reduceEqDiff, reduceCtorEq, ↓reduceIte]
  exact ah_ (bad (by simp [b8_, h1])).symm
 have h1' : ((aO_ s)[k] < 32) = False := eq_false h1
 by_cases h2 : 126 < (aO_ s)[k]
 ·have h2' : (126 < (aO_ s)[k]) = True := eq_true h2
  simp (disch := omega) only [t0, t3, hlt, h1', h2', go_sem, reduceEqDiff, reduceCtorEq, ↓reduceIte]
  exact ah_ (bad (by simp [b8_, h2])).symm
 have h2' : (126 < (aO_ s)[k]) = False := eq_false h2
 by_cases h3 : (aO_ s)[k] = 94
 ·have h3' : ((aO_ s)[k] = 94) = True := eq_true h3
  simp (disch := omega) only [t0, t3, hlt, h1', h2', h3', go_sem, reduceEqDiff, reduceCtorEq, ↓reduceIte]
  exact ah_ (bad (by simp [b8_, h3])).symm
 have h3' : ((aO_ s)[k] = 94) = False := eq_false h3
 simp (disch := omega) only [t0, t3, hlt, h1', h2', h3', aX_, go_sem, reduceEqDiff, reduceCtorEq, ↓reduceIte]
 exact ⟨s.size - (k + 1), by omega, hJ _ _ _ ⟨k + 1, by simp [upd, t0], by simp [upd], rfl, by omega, by rw [hS]; simp [b8_, h1, h2, h3]⟩⟩
theorem fT_ (b : af_) (r : am_) (hb : af_.sz b ≤ 1048576) (hr : am_.sz r ≤ 1048576) (hpos : 0 < b.Columns.length) (h : List Row) : aa_ Try.prog 29 [.agg (af_.cells b), .agg (am_.cells r)] h (.val (.bool (cb_ b r))) := by
 refine as_ mixed Try.func29 lP_ rfl rfl ?_ h
 have hc := bB_ (am_.sz_Cells hr)
 have hmem : ∀ s ∈ r.Cells, s.size ≤ 1048576 := fun s hs => eS_ (am_.sz_Cells hr) hs
 by_cases h1 : (r.Cells.length : Int) = (b.Columns.length : Int)
 case neg =>
  have h1' : ((r.Cells.length : Int) = (b.Columns.length : Int)) = False := eq_false h1
  simp (disch := omega) only [ip_, c29, af_.cells, am_.cells, h1', go_sem, reduceEqDiff, Nat.reduceAdd, ↓reduceIte]
  exact ah_ (by simp [cb_, h1])
 have h1' : ((r.Cells.length : Int) = (b.Columns.length : Int)) = True := eq_true h1
 obtain ⟨c0, cs, hcs⟩ : ∃ c0 cs, r.Cells = c0 :: cs := by
  cases q : r.Cells with
  | nil => rw [q] at h1; simp at h1; omega
  | cons c cs => exact ⟨c, cs, rfl⟩
 have hl0 : 0 < r.Cells.length := by rw [hcs]; simp
 have hg0 : r.Cells[0] = c0 := by simp [hcs]
 by_cases h2 : c0 = txt []
 ·have h2' : (c0 = txt []) = True := eq_true h2
  simp (disch := omega) only [ip_, c29, af_.cells, am_.cells, h1', hg0, h2', go_sem, reduceEqDiff, Nat.reduceAdd, Int.reduceLE, ↓reduceIte]
  exact ah_ (by simp [cb_, hcs, h2])
 have h2' : (c0 = txt []) = False := eq_false h2
 have hR : cb_ b r = r.Cells.all bl_ := by
  unfold cb_
  rw [decide_eq_true h1, hcs]
  simp [h2]
 simp (disch := omega) only [ip_, c29, af_.cells, am_.cells, h1', hg0, h2', go_sem, reduceEqDiff, Nat.reduceAdd, Int.reduceLE, ↓reduceIte]
 refine bb_ (fun m t h => ∃ (k : Nat), t 3 = .ptr 1 1 0 0 ∧ t 5 = .val (.int .i64 k) ∧ h[1]? = some ⟨.ty 35, 1, [[.list 0 1 (r.Cells.map aA_)]]⟩ ∧ m = r.Cells.length - k ∧ k ≤ r.Cells.length ∧ cb_ b r = (r.Cells.drop k).all bl_) r.Cells.length ⟨0, rfl, rfl, rfl, rfl, Nat.zero_le _, hR⟩ ?_
 rintro J hJ m t h ⟨k, t3, t5, o1, rfl, hk, hS⟩
 by_cases hlt : k < r.Cells.length
 case neg =>
  rw [drop_eq_nil_of_le (by omega)] at hS
  simp (disch := omega) only [t3, t5, o1, hlt, go_sem, reduceEqDiff, ↓reduceIte]
  exact ah_ (by rw [hS]; rfl)
 rw [drop_eq_getElem_cons hlt, all_cons] at hS
 simp (disch := omega) only [t3, t5, o1, hlt, go_sem, reduceEqDiff, ↓reduceIte]
 refine aa_.call (fo_ _ (hmem _ (getElem_mem hlt)) _) ?_
 cases q : bl_ r.Cells[k]
 ·rw [q] at hS
  simp (disch := omega) only [go_sem, ↓reduceIte]
  exact ah_ (by rw [hS]; rfl)
 ·rw [q] at hS
  simp (disch := omega) only [t5, aX_, go_sem, reduceEqDiff, ↓reduceIte]
  exact ⟨r.Cells.length - (k + 1), by omega, hJ _ _ _ ⟨k + 1, by simp [upd, t3], by simp [upd], by first | exact o1 | exact dx_ o1, rfl, by omega, by rw [hS]; rfl⟩⟩
theorem eE_ {b : af_} (h : aM_ b = true) : 0 < b.Columns.length := by
 simp only [aM_, Bool.and_eq_true] at h
 have := h.1.1.1.2
 simp only [b4_, Bool.and_eq_true, decide_eq_true_eq] at this
 omega
def ce_ (b : af_) (r : am_) : Bool := aM_ b && cb_ b r
theorem gs_ (b : af_) (r : am_) (hb : af_.sz b ≤ 1048576) (hr : am_.sz r ≤ 1048576) (h : List Row) : aa_ Try.prog 14 [.agg (af_.cells b), .agg (am_.cells r)] h (.val (.bool (ce_ b r))) := by
 refine as_ mixed Try.func14 lV_ rfl rfl ?_ h
 simp (disch := omega) only [lJ_, c14, af_.cells, am_.cells, go_sem, reduceEqDiff, Nat.reduceAdd, ↓reduceIte]
 refine aa_.call (fr_ b hb _) ?_
 cases q : aM_ b
 ·simp (disch := omega) only [go_sem, reduceEqDiff, ↓reduceIte]
  exact ah_ (by simp [ce_, q])
 simp (disch := omega) only [go_sem, reduceEqDiff, Nat.reduceAdd, ↓reduceIte]
 refine aa_.call (gw_ b r hb hr (eE_ q) _) ?_
 simp (disch := omega) only [go_sem, reduceEqDiff, ↓reduceIte]
 exact ah_ (by simp [ce_, q])
end Go.Proofs.Ytkddmakjmjmokaa
