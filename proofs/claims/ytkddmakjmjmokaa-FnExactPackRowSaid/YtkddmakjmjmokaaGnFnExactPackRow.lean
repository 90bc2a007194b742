/-
 Contracts of functions. Conditions: as each theorem says.
-/
import Derived.Test.YtkddmakjmjmokaaBase
namespace Go.Proofs.Ytkddmakjmjmokaa
open Nat (reduceEqDiff reduceLeDiff)
open List
open Go.AW
set_option linter.unusedVariables false
set_option linter.unusedSimpArgs false
def c18 : LC :=
 .q [.o [.ki 4 0], .o [.m 6 1, .m 7 0, .ll 8 7, .bb 9 .sub false 6 8, .m 1 9], .q [.o [.m 10 1, .bk 11 .lss false 10 0], .k 11 (.q [.o [.s 4 (.mov (.const (.int .i64 (-1))))], .ret]) .skip], .q [.o [.ki 5 0], .block 0
 (.loop (.q [.q [.o [.m 12 5, .m 13 0, .ll 14 13, .bb 15 .lss false 12 14], .k 15 .skip (.exit 0)], .block 1 (.q [.o [.m 18 1, .m 19 0, .m 20 5, .ia 21 1 19 20, .ln 22 21, .s 23 (.lenStr (.tmp 22)), .bb 24 .sub false 18
 23, .m 1 24], .o [.m 25 1, .bk 26 .lss false 25 0], .k 26 (.q [.o [.s 4 (.mov (.const (.int .i64 (-1))))], .ret]) .skip]), .o [.m 16 5, .bk 17 .add false 16 1, .m 5 17]]))], .o [.m 27 1, .m 4 27], .ret]
def lF_ : LF := ⟨2, 28, c18, [.tmp 4]⟩
theorem l2_ : aF_ Try.prog Try.f18 lF_ := ax_
def c20 : LC :=
 .q [.o [.nl 2], .o [.m 5 0, .ll 6 5, .s 7 (.mkSlice 9 1 16 (.string ⟨#[]⟩) (.tmp 6) (.tmp 6)), .m 3 7], .q [.o [.ki 4 0], .block 0 (.loop (.q [.q [.o [.m 8 4, .m 9 0, .ll 10 9, .bb 11 .lss false 8 10], .k 11 .skip (.exit
 0)], .block 1 (.o [.m 14 3, .m 15 4, .m 16 0, .m 17 4, .ia 18 1 16 17, .ln 19 18, .ia 20 1 14 15, .st 1 20 19]), .o [.m 12 4, .bk 13 .add false 12 1, .m 4 13]]))], .o [.m 21 3, .m 2 21], .ret]
def kU_ : LF := ⟨1, 22, c20, [.tmp 2]⟩
theorem mr_ : aF_ Try.prog Try.f20 kU_ := ax_
def c28 : LC :=
 .q [.o [.f 4], .q [.o [.m 6 0, .ll 7 6, .m 8 1, .ll 9 8, .bb 10 .neq false 7 9], .k 10 (.q [.o [.f 4], .ret]) .skip], .q [.o [.ki 5 0], .block 0 (.loop (.q [.q [.o [.m 11 5, .m 12 0, .ll 13 12, .bb 14 .lss false 11 13],
 .k 14 .skip (.exit 0)], .block 1 (.q [.dops [.m 17 0, .m 18 5, .ia 19 1 17 18, .ln 20 19, .m 21 1, .m 22 5, .ia 23 1 21 22, .ln 24 23, .bb 25 .neq false 20 24], .k 25 (.q [.o [.f 4], .ret]) .skip]), .o [.m 15 5, .bk 16
 .add false 15 1, .m 5 16]]))], .o [.t 4], .ret]
def kY_ : LF := ⟨2, 26, c28, [.tmp 4]⟩
theorem mo_ : aF_ Try.prog Try.f28 kY_ := ax_
def c11 : LC :=
 .q [.o [.bx 2 32 0, .ki 4 0], .o [.fa 5 0 2, .ln 6 5, .m 7 1, .c2 8 18 6 7, .m 1 8], .q [.o [.m 9 1, .bk 10 .lss false 9 0], .k 10 (.q [.o [.s 4 (.mov (.const (.int .i64 (-1))))], .ret]) .skip], .o [.m 11 1, .m 4 11],
 .ret]
def lh_ : LF := ⟨2, 12, c11, [.tmp 4]⟩
theorem l8_ : aF_ Try.prog Try.f11 lh_ := ax_
def c13 : LC :=
 .q [.o [.bx 1 32 0, .s 2 (.alloc 35 (.agg #[.slice none 0 0]))], .o [.s 3 (.alloc 35 (.agg #[.slice none 0 0]))], .o [.fa 4 0 1, .ln 5 4, .c1 6 20 5, .fa 7 0 3, .st 1 7 6], .o [.ld 8 1 3, .st 1 2 8], .ret]
def kR_ : LF := ⟨1, 9, c13, [.cell 2 (some 1)]⟩
theorem lM_ : aF_ Try.prog Try.f13 kR_ := ax_
def c15 : LC :=
 .q [.o [.bx 2 35 0, .bx 3 35 1, .f 4], .q [.o [.fa 5 0 2, .ln 6 5, .fa 7 0 3, .ln 8 7, .c2 9 28 6 8, .nt 10 9], .k 10 (.q [.o [.f 4], .ret]) .skip], .o [.t 4], .ret]
def lC_ : LF := ⟨2, 11, c15, [.tmp 4]⟩
theorem lX_ : aF_ Try.prog Try.f15 lC_ := ax_
def c6 : LC :=
 .q [.o [.bx 2 24 0, .ki 4 0], .o [.m 5 1, .fa 6 0 2, .ln 7 6, .s 8 (.lenStr (.tmp 7)), .bb 9 .sub false 5 8, .m 1 9], .q [.o [.m 10 1, .bk 11 .lss false 10 0], .k 11 (.q [.o [.s 4 (.mov (.const (.int .i64 (-1))))],
 .ret]) .skip], .o [.m 12 1, .fa 13 1 2, .ln 14 13, .s 15 (.lenStr (.tmp 14)), .bb 16 .sub false 12 15, .m 1 16], .q [.o [.m 17 1, .bk 18 .lss false 17 0], .k 18 (.q [.o [.s 4 (.mov (.const (.int .i64 (-1))))], .ret])
 .skip], .o [.fa 19 2 2, .ln 20 19, .m 21 1, .c2 22 18 20 21, .m 1 22], .q [.o [.m 23 1, .bk 24 .lss false 23 0], .k 24 (.q [.o [.s 4 (.mov (.const (.int .i64 (-1))))], .ret]) .skip], .o [.fa 25 3 2, .ln 26 25, .m 27 1,
 .c2 28 18 26 27, .m 1 28], .q [.o [.m 29 1, .bk 30 .lss false 29 0], .k 30 (.q [.o [.s 4 (.mov (.const (.int .i64 (-1))))], .ret]) .skip], .o [.m 31 1, .m 4 31], .ret]
def lf6 : LF := ⟨2, 32, c6, [.tmp 4]⟩
theorem mz_ : aF_ Try.prog Try.f6 lf6 := ax_
def c8 : LC :=
 .q [.o [.bx 1 24 0, .s 2 (.alloc 27 (.agg #[.string ⟨#[]⟩, .string ⟨#[]⟩, .slice none 0 0, .slice none 0 0]))], .o [.s 3 (.alloc 27 (.agg #[.string ⟨#[]⟩, .string ⟨#[]⟩, .slice none 0 0, .slice none 0 0]))], .o [.fa 4 0
 1, .ln 5 4, .fa 6 0 3, .st 1 6 5], .o [.fa 7 1 1, .ln 8 7, .fa 9 1 3, .st 1 9 8], .o [.fa 10 2 1, .ln 11 10, .c1 12 20 11, .fa 13 2 3, .st 1 13 12], .o [.fa 14 3 1, .ln 15 14, .c1 16 20 15, .fa 17 3 3, .st 1 17 16], .o
 [.ld 18 4 3, .st 4 2 18], .ret]
def lf8 : LF := ⟨1, 19, c8, [.cell 2 (some 4)]⟩
theorem mA_ : aF_ Try.prog Try.f8 lf8 := ax_
def c10 : LC :=
 .q [.o [.bx 2 27 0, .bx 3 27 1, .f 4], .q [.o [.fa 5 0 2, .ln 6 5, .fa 7 0 3, .ln 8 7, .bb 9 .neq false 6 8], .k 9 (.q [.o [.f 4], .ret]) .skip], .q [.o [.fa 10 1 2, .ln 11 10, .fa 12 1 3, .ln 13 12, .bb 14 .neq false 11
 13], .k 14 (.q [.o [.f 4], .ret]) .skip], .q [.o [.fa 15 2 2, .ln 16 15, .fa 17 2 3, .ln 18 17, .c2 19 28 16 18, .nt 20 19], .k 20 (.q [.o [.f 4], .ret]) .skip], .q [.o [.fa 21 3 2, .ln 22 21, .fa 23 3 3, .ln 24 23, .c2
 25 28 22 24, .nt 26 25], .k 26 (.q [.o [.f 4], .ret]) .skip], .o [.t 4], .ret]
def lA_ : LF := ⟨2, 27, c10, [.tmp 4]⟩
theorem l6_ : aF_ Try.prog Try.f10 lA_ := ax_
theorem dz_ (xs : List ByteArray) (l : Int) (h0 : 0 ≤ l) (h1 : l ≤ 1048576) (hw : ee_ cr_ xs) (h : List Row) : aa_ Try.prog 18 [.list 0 1 (xs.map aA_), .val (.int .i64 l)] h (.val (.int .i64 (szR (ar_ ByteArray.size xs) l))) := by
 obtain ⟨hx, hs⟩ := hw
 refine as_ mixed Try.func18 l2_ rfl rfl ?_ h
 simp (disch := omega) only [lF_, c18, aD_, go_sem, reduceEqDiff, reduceCtorEq, Int.reduceNeg, ↓reduceIte, aX_]
 refine ⟨fun hn => ?_, fun hn => ?_⟩
 ·rw [bw_ (by simp only [ar_]; omega)]; exact al_ _ _
 ·refine bb_ (fun n t h => ∃ (k : Nat) (m : Int), t 0 = .list 0 1 (xs.map aA_) ∧ t 5 = .val (.int .i64 k) ∧ t 1 = .val (.int .i64 m) ∧ h = [] ∧ n = xs.length - k ∧ k ≤ xs.length ∧ 0 ≤ m ∧ m ≤ 1048576 ∧ szR (ar_ ByteArray.size xs) l = szR (dr_ ByteArray.size (xs.drop k)) m) xs.length ?_ ?_
  ·exact ⟨0, l - xs.length, rfl, rfl, rfl, rfl, rfl, Nat.zero_le _, by omega, by omega, hR_ (by omega)⟩
  ·rintro J hJ n t h ⟨k, m, t0, t5, t1, rfl, rfl, hk, hm0, hm1, hS⟩
   by_cases hlt : k < xs.length
   ·have hd := iy_ ByteArray.size xs k hlt
    have hwk := hs _ (getElem_mem hlt)
    rw [hd] at hS
    unfold cr_ at hwk
    simp (disch := omega) only [t0, t5, t1, hlt, aD_, go_sem, reduceEqDiff, reduceCtorEq, Int.reduceNeg, ↓reduceIte, aX_]
    refine ⟨fun hn2 => ?_, fun hn2 => ?_⟩
    ·rw [hS, bw_ (by omega)]; exact al_ _ _
    ·exact ⟨xs.length - (k + 1), by omega, hJ _ _ _ ⟨k + 1, m - xs[k].size, by simp [upd, t0], by simp [upd], by simp [upd], rfl, rfl, by omega, by omega, by omega, by rw [hS, hR_ (by omega)]⟩⟩
   ·simp (disch := omega) only [t0, t5, t1, hlt, aD_, go_sem, reduceEqDiff, reduceCtorEq, Int.reduceNeg, ↓reduceIte]
    rw [hS, drop_eq_nil_of_le (by omega), cM_ (by simp only [dr_]; omega)]
    simp only [dr_, Int.natCast_zero, Int.sub_zero]
    exact al_ _ _
theorem dF_ (xs : List ByteArray) (hb : (ar_ ByteArray.size) xs ≤ 1048576) (h : List Row) : aa_ Try.prog 20 [.list 0 1 (xs.map aA_)] h (.list 0 1 (xs.map aA_)) := by
 have hx := Nat.le_trans (dq_ (f := ByteArray.size) (xs := xs)) hb
 refine as_ mixed Try.func20 mr_ rfl rfl ?_ h
 simp (disch := omega) only [kU_, c20, go_sem, reduceCtorEq, ↓reduceIte]
 refine ⟨by omega, by omega, ?_⟩
 refine bb_ (fun n t h => ∃ k : Nat, t 0 = .list 0 1 (xs.map aA_) ∧ t 3 = .own 0 xs.length ∧ t 4 = .val (.int .i64 k) ∧ h = [⟨9, 1, bm_ (xs.map aA_) [.val (.string ⟨#[]⟩)] k⟩] ∧ n = xs.length - k ∧ k ≤ xs.length) xs.length ?_ ?_
 ·exact ⟨0, rfl, rfl, rfl, by rw [hI_]; simp, rfl, Nat.zero_le _⟩
 ·rintro J hJ n t h ⟨k, t0, t3, t4, rfl, rfl, hk⟩
  have fl : (bm_ (xs.map aA_) [.val (.string ⟨#[]⟩)] k).length = xs.length := by rw [gx_ _ _ (by simpa using hk)]; simp
  by_cases hlt : k < xs.length
  ·have fg : (bm_ (xs.map aA_) [.val (.string ⟨#[]⟩)] k)[k]? = some [.val (.string ⟨#[]⟩)] := h7_ _ _ (by simpa using hlt)
   have fs := hA_ (xs.map aA_) [.val (.string ⟨#[]⟩)] (aA_ xs[k]) (k := k) (by rw [getElem?_map, getElem?_eq_getElem hlt]; rfl)
   simp (disch := omega) only [t0, t3, t4, hlt, fl, fg, aD_, go_sem, reduceEqDiff, reduceCtorEq, ↓reduceIte, aX_]
   try simp (disch := omega) only [fs, go_sem]
   exact ⟨xs.length - (k + 1), by omega, hJ _ _ _ ⟨k + 1, by simp [upd, t0], by simp [upd, t3], by simp [upd], by simp [], rfl, by omega⟩⟩
  ·simp (disch := omega) only [t0, t3, t4, hlt, fl, aD_, go_sem, reduceEqDiff, reduceCtorEq, ↓reduceIte]
   have ff : bm_ (xs.map aA_) [.val (.string ⟨#[]⟩)] k = xs.map aA_ := iw_ _ _ (by simp; omega)
   rw [ff]
   exact hd_ (r := ⟨9, 1, xs.map aA_⟩) rfl (by simp) (by intro e he; obtain ⟨x, _, q⟩ := mem_map.1 he; subst q; rfl)
theorem dA_ (xs : List ByteArray) (hb : (ar_ ByteArray.size) xs ≤ 1048576) (h : List Row) : aa_ Try.prog 28 [.list 0 1 (xs.map aA_), .list 0 1 (xs.map aA_)] h (.val (.bool true)) := by
 have hx := Nat.le_trans (dq_ (f := ByteArray.size) (xs := xs)) hb
 refine as_ mixed Try.func28 mo_ rfl rfl ?_ h
 simp (disch := omega) only [kY_, c28, aD_, go_sem, reduceEqDiff, reduceCtorEq, ↓reduceIte]
 refine bb_ (fun n t h => ∃ k : Nat, t 0 = .list 0 1 (xs.map aA_) ∧ t 1 = .list 0 1 (xs.map aA_) ∧ t 5 = .val (.int .i64 k) ∧ h = [] ∧ n = xs.length - k ∧ k ≤ xs.length) xs.length ?_ ?_
 ·exact ⟨0, rfl, rfl, rfl, rfl, rfl, Nat.zero_le _⟩
 ·rintro J hJ n t h ⟨k, t0, t1, t5, rfl, rfl, hk⟩
  by_cases hlt : k < xs.length
  ·simp (disch := omega) only [t0, t1, t5, hlt, aD_, go_sem, reduceEqDiff, reduceCtorEq, ↓reduceIte, aX_]
   exact ⟨xs.length - (k + 1), by omega, hJ _ _ _ ⟨k + 1, by simp [upd, t0], by simp [upd, t1], by simp [upd], rfl, rfl, by omega⟩⟩
  ·simp (disch := omega) only [t0, t1, t5, hlt, aD_, go_sem, reduceEqDiff, reduceCtorEq, ↓reduceIte, aX_]
   exact al_ _ _
theorem jL_ (x : am_) (l : Int) (h0 : 0 ≤ l) (h1 : l ≤ 1048576) (hw : am_.wf x) (h : List Row) : aa_ Try.prog 11 [.agg (am_.cells x), .val (.int .i64 l)] h (.val (.int .i64 (szR (am_.sz x) l))) := by
 obtain ⟨w_Cells, _⟩ := hw
 have hsz : am_.sz x = (ar_ ByteArray.size) x.Cells := rfl
 refine as_ mixed Try.func11 l8_ rfl rfl ?_ h
 simp (disch := omega) only [lh_, c11, am_.cells, go_sem, reduceEqDiff, Int.reduceNeg, ↓reduceIte]
 refine aa_.call (dz_ x.Cells (l) (by omega) (by omega) w_Cells _) ?_
 by_cases hn_Cells : ((ar_ ByteArray.size) x.Cells : Int) ≤ l
 case neg =>
  rw [bw_ (n := (ar_ ByteArray.size) x.Cells) (l := l) (by omega)]
  simp (disch := omega) only [aD_, go_sem, reduceEqDiff, Int.reduceNeg, ↓reduceIte]
  rw [bw_ (by omega)]; exact al_ _ _
 rw [cM_ (n := (ar_ ByteArray.size) x.Cells) (l := l) hn_Cells]
 simp (disch := omega) only [aD_, go_sem, reduceEqDiff, Int.reduceNeg, ↓reduceIte]
 refine ⟨fun hn => absurd hn (by omega), fun _ => ?_⟩
 rw [cM_ (by omega), hsz]
 have hfin : l - (((ar_ ByteArray.size) x.Cells : Nat) : Int) = l - (ar_ ByteArray.size) x.Cells := by omega
 rw [hfin]; exact al_ _ _
theorem g9_ (x : am_) (hb : am_.sz x ≤ 1048576) (h : List Row) : aa_ Try.prog 13 [.agg (am_.cells x)] h (.agg (am_.cells x)) := by
 have hsz : am_.sz x = (ar_ ByteArray.size) x.Cells := rfl
 refine as_ mixed Try.func13 lM_ rfl rfl ?_ h
 simp (disch := omega) only [kR_, c13, am_.cells, go_sem, reduceEqDiff, Nat.reduceAdd, ↓reduceIte]
 refine aa_.call (dF_ x.Cells (by omega) _) ?_
 simp (disch := omega) only [go_sem, reduceEqDiff, ↓reduceIte, eH_]
 exact e3_ _ _ rfl
theorem gU_ (x : am_) (hb : am_.sz x ≤ 1048576) (h : List Row) : aa_ Try.prog 15 [.agg (am_.cells x), .agg (am_.cells x)] h (.val (.bool true)) := by
 have hsz : am_.sz x = (ar_ ByteArray.size) x.Cells := rfl
 refine as_ mixed Try.func15 lX_ rfl rfl ?_ h
 simp (disch := omega) only [lC_, c15, am_.cells, go_sem, reduceEqDiff, ↓reduceIte]
 refine aa_.call (dA_ x.Cells (by omega) _) ?_
 simp (disch := omega) only [aD_, go_sem, ↓reduceIte]
 exact al_ _ _
theorem is_ (x : af_) (l : Int) (h0 : 0 ≤ l) (h1 : l ≤ 1048576) (hw : af_.wf x) (h : List Row) : aa_ Try.prog 6 [.agg (af_.cells x), .val (.int .i64 l)] h (.val (.int .i64 (szR (af_.sz x) l))) := by
 obtain ⟨w_Name, w_Global, w_Columns, w_Indexes, _⟩ := hw
 have hsz : af_.sz x = ByteArray.size x.Name + ByteArray.size x.Global + (ar_ ByteArray.size) x.Columns + (ar_ ByteArray.size) x.Indexes := rfl
 refine as_ mixed Try.func6 mz_ rfl rfl ?_ h
 unfold cr_ at w_Name
 unfold cr_ at w_Global
 simp (disch := omega) only [lf6, c6, af_.cells, aD_, go_sem, reduceEqDiff, Nat.reduceAdd, Int.reduceNeg, ↓reduceIte, aX_]
 refine ⟨fun hn => ?_, fun hn_Name => ?_⟩
 ·rw [bw_ (by omega)]; exact al_ _ _
 try simp (disch := omega) only [aX_]
 refine ⟨fun hn => ?_, fun hn_Global => ?_⟩
 ·rw [bw_ (by omega)]; exact al_ _ _
 try simp (disch := omega) only [aX_]
 refine aa_.call (dz_ x.Columns (l - ByteArray.size x.Name - ByteArray.size x.Global) (by omega) (by omega) w_Columns _) ?_
 by_cases hn_Columns : ((ar_ ByteArray.size) x.Columns : Int) ≤ l - ByteArray.size x.Name - ByteArray.size x.Global
 case neg =>
  rw [bw_ (n := (ar_ ByteArray.size) x.Columns) (l := l - ByteArray.size x.Name - ByteArray.size x.Global) (by omega)]
  simp (disch := omega) only [aD_, go_sem, reduceEqDiff, Int.reduceNeg, ↓reduceIte]
  rw [bw_ (by omega)]; exact al_ _ _
 rw [cM_ (n := (ar_ ByteArray.size) x.Columns) (l := l - ByteArray.size x.Name - ByteArray.size x.Global) hn_Columns]
 simp (disch := omega) only [aD_, go_sem, reduceEqDiff, Int.reduceNeg, ↓reduceIte]
 refine ⟨fun hn => absurd hn (by omega), fun _ => ?_⟩
 refine aa_.call (dz_ x.Indexes (l - ByteArray.size x.Name - ByteArray.size x.Global - (ar_ ByteArray.size) x.Columns) (by omega) (by omega) w_Indexes _) ?_
 by_cases hn_Indexes : ((ar_ ByteArray.size) x.Indexes : Int) ≤ l - ByteArray.size x.Name - ByteArray.size x.Global - (ar_ ByteArray.size) x.Columns
 case neg =>
  rw [bw_ (n := (ar_ ByteArray.size) x.Indexes) (l := l - ByteArray.size x.Name - ByteArray.size x.Global - (ar_ ByteArray.size) x.Columns) (by omega)]
  simp (disch := omega) only [aD_, go_sem, reduceEqDiff, Int.reduceNeg, ↓reduceIte]
  rw [bw_ (by omega)]; exact al_ _ _
 rw [cM_ (n := (ar_ ByteArray.size) x.Indexes) (l := l - ByteArray.size x.Name - ByteArray.size x.Global - (ar_ ByteArray.size) x.Columns) hn_Indexes]
 simp (disch := omega) only [aD_, go_sem, reduceEqDiff, Int.reduceNeg, ↓reduceIte]
 refine ⟨fun hn => absurd hn (by omega), fun _ => ?_⟩
 rw [cM_ (by omega), hsz]
 have hfin : l - ((ByteArray.size x.Name + ByteArray.size x.Global + (ar_ ByteArray.size) x.Columns + (ar_ ByteArray.size) x.Indexes : Nat) : Int) = l - ByteArray.size x.Name - ByteArray.size x.Global - (ar_ ByteArray.size) x.Columns - (ar_ ByteArray.size) x.Indexes := by omega
 rw [hfin]; exact al_ _ _
theorem fN_ (x : af_) (hb : af_.sz x ≤ 1048576) (h : List Row) : aa_ Try.prog 8 [.agg (af_.cells x)] h (.agg (af_.cells x)) := by
 have hsz : af_.sz x = ByteArray.size x.Name + ByteArray.size x.Global + (ar_ ByteArray.size) x.Columns + (ar_ ByteArray.size) x.Indexes := rfl
 refine as_ mixed Try.func8 mA_ rfl rfl ?_ h
 simp (disch := omega) only [lf8, c8, af_.cells, go_sem, reduceEqDiff, Nat.reduceAdd, reduceLeDiff, ↓reduceIte]
 refine aa_.call (dF_ x.Columns (by omega) _) ?_
 simp (disch := omega) only [go_sem, reduceEqDiff, Nat.reduceAdd, reduceLeDiff, ↓reduceIte]
 refine aa_.call (dF_ x.Indexes (by omega) _) ?_
 simp (disch := omega) only [go_sem, reduceEqDiff, Nat.reduceAdd, ↓reduceIte, eH_]
 exact e3_ _ _ rfl
theorem fD_ (x : af_) (hb : af_.sz x ≤ 1048576) (h : List Row) : aa_ Try.prog 10 [.agg (af_.cells x), .agg (af_.cells x)] h (.val (.bool true)) := by
 have hsz : af_.sz x = ByteArray.size x.Name + ByteArray.size x.Global + (ar_ ByteArray.size) x.Columns + (ar_ ByteArray.size) x.Indexes := rfl
 refine as_ mixed Try.func10 l6_ rfl rfl ?_ h
 simp (disch := omega) only [lA_, c10, af_.cells, aD_, go_sem, reduceEqDiff, Nat.reduceAdd, ↓reduceIte]
 refine aa_.call (dA_ x.Columns (by omega) _) ?_
 simp (disch := omega) only [aD_, go_sem, reduceEqDiff, ↓reduceIte]
 refine aa_.call (dA_ x.Indexes (by omega) _) ?_
 simp (disch := omega) only [aD_, go_sem, ↓reduceIte]
 exact al_ _ _
end Go.Proofs.Ytkddmakjmjmokaa
