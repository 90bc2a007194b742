/-
 Contracts of functions. Conditions: as each theorem says.
-/
import Derived.Test.YtddmifalinefnaaGreatDoorBase
namespace Go.Proofs.YtddmifalinefnaaGreatDoor
open Tryz (prog)
open Nat (reduceEqDiff reduceLeDiff)
open List
open Go.AW
set_option linter.unusedVariables false
set_option linter.unusedSimpArgs false
def c60 : LC :=
 .q [.o [.ki 4 0], .o [.m 6 1, .m 7 0, .ll 8 7, .bb 9 .sub false 6 8, .m 1 9], .q [.o [.m 10 1, .bk 11 .lss false 10 0], .k 11 (.q [.o [.s 4 (.mov (.const (.int .i64 (-1))))], .ret]) .skip], .q [.o [.ki 5 0], .block 0
 (.loop (.q [.q [.o [.m 12 5, .m 13 0, .ll 14 13, .bb 15 .lss false 12 14], .k 15 .skip (.exit 0)], .block 1 (.q [.o [.m 18 1, .m 19 0, .m 20 5, .ia 21 1 19 20, .ln 22 21, .s 23 (.lenStr (.tmp 22)), .bb 24 .sub false 18
 23, .m 1 24], .o [.m 25 1, .bk 26 .lss false 25 0], .k 26 (.q [.o [.s 4 (.mov (.const (.int .i64 (-1))))], .ret]) .skip]), .o [.m 16 5, .bk 17 .add false 16 1, .m 5 17]]))], .o [.m 27 1, .m 4 27], .ret]
def vZ_ : LF := ⟨2, 28, c60, [.tmp 4]⟩
theorem wH_ : av_ prog Tryz.f60 vZ_ := am_
def c70 : LC :=
 .q [.o [.nl 2], .o [.m 5 0, .ll 6 5, .s 7 (.mkSlice 9 1 16 (.string ⟨#[]⟩) (.tmp 6) (.tmp 6)), .m 3 7], .q [.o [.ki 4 0], .block 0 (.loop (.q [.q [.o [.m 8 4, .m 9 0, .ll 10 9, .bb 11 .lss false 8 10], .k 11 .skip (.exit
 0)], .block 1 (.o [.m 14 3, .m 15 4, .m 16 0, .m 17 4, .ia 18 1 16 17, .ln 19 18, .ia 20 1 14 15, .st 1 20 19]), .o [.m 12 4, .bk 13 .add false 12 1, .m 4 13]]))], .o [.m 21 3, .m 2 21], .ret]
def rr_ : LF := ⟨1, 22, c70, [.tmp 2]⟩
theorem ta_ : av_ prog Tryz.f70 rr_ := am_
def c83 : LC :=
 .q [.o [.f 4], .q [.o [.m 6 0, .ll 7 6, .m 8 1, .ll 9 8, .bb 10 .neq false 7 9], .k 10 (.q [.o [.f 4], .ret]) .skip], .q [.o [.ki 5 0], .block 0 (.loop (.q [.q [.o [.m 11 5, .m 12 0, .ll 13 12, .bb 14 .lss false 11 13],
 .k 14 .skip (.exit 0)], .block 1 (.q [.dops [.m 17 0, .m 18 5, .ia 19 1 17 18, .ln 20 19, .m 21 1, .m 22 5, .ia 23 1 21 22, .ln 24 23, .bb 25 .neq false 20 24], .k 25 (.q [.o [.f 4], .ret]) .skip]), .o [.m 15 5, .bk 16
 .add false 15 1, .m 5 16]]))], .o [.t 4], .ret]
def uC_ : LF := ⟨2, 26, c83, [.tmp 4]⟩
theorem xC_ : av_ prog Tryz.f83 uC_ := am_
def c38 : LC :=
 .q [.o [.bx 2 42 0, .ki 4 0], .o [.m 5 1, .fa 6 1 2, .ln 7 6, .s 8 (.lenStr (.tmp 7)), .bb 9 .sub false 5 8, .m 1 9], .q [.o [.m 10 1, .bk 11 .lss false 10 0], .k 11 (.q [.o [.s 4 (.mov (.const (.int .i64 (-1))))],
 .ret]) .skip], .o [.fa 12 2 2, .ln 13 12, .m 14 1, .c2 15 60 13 14, .m 1 15], .q [.o [.m 16 1, .bk 17 .lss false 16 0], .k 17 (.q [.o [.s 4 (.mov (.const (.int .i64 (-1))))], .ret]) .skip], .o [.m 18 1, .fa 19 3 2, .ln
 20 19, .s 21 (.lenStr (.tmp 20)), .bb 22 .sub false 18 21, .m 1 22], .q [.o [.m 23 1, .bk 24 .lss false 23 0], .k 24 (.q [.o [.s 4 (.mov (.const (.int .i64 (-1))))], .ret]) .skip], .o [.m 25 1, .m 4 25], .ret]
def um_ : LF := ⟨2, 26, c38, [.tmp 4]⟩
theorem xt_ : av_ prog Tryz.f38 um_ := am_
def c42 : LC :=
 .q [.o [.bx 1 42 0, .s 2 (.alloc 47 (.agg #[.int .i64 0, .string ⟨#[]⟩, .slice none 0 0, .string ⟨#[]⟩, .int .i64 0]))], .o [.s 3 (.alloc 47 (.agg #[.int .i64 0, .string ⟨#[]⟩, .slice none 0 0, .string ⟨#[]⟩, .int .i64
 0]))], .o [.fa 4 0 1, .ln 5 4, .fa 6 0 3, .st 1 6 5], .o [.fa 7 1 1, .ln 8 7, .fa 9 1 3, .st 1 9 8], .o [.fa 10 2 1, .ln 11 10, .c1 12 70 11, .fa 13 2 3, .st 1 13 12], .o [.fa 14 3 1, .ln 15 14, .fa 16 3 3, .st 1 16 15],
 .o [.fa 17 4 1, .ln 18 17, .fa 19 4 3, .st 1 19 18], .o [.ld 20 5 3, .st 5 2 20], .ret]
def rQ_ : LF := ⟨1, 21, c42, [.cell 2 (some 5)]⟩
theorem sW_ : av_ prog Tryz.f42 rQ_ := am_
def c53 : LC :=
 .q [.o [.bx 2 47 0, .bx 3 47 1, .f 4], .q [.o [.fa 5 0 2, .ln 6 5, .fa 7 0 3, .ln 8 7, .bb 9 .neq false 6 8], .k 9 (.q [.o [.f 4], .ret]) .skip], .q [.o [.fa 10 1 2, .ln 11 10, .fa 12 1 3, .ln 13 12, .bb 14 .neq false 11
 13], .k 14 (.q [.o [.f 4], .ret]) .skip], .q [.o [.fa 15 2 2, .ln 16 15, .fa 17 2 3, .ln 18 17, .c2 19 83 16 18, .nt 20 19], .k 20 (.q [.o [.f 4], .ret]) .skip], .q [.o [.fa 21 3 2, .ln 22 21, .fa 23 3 3, .ln 24 23, .bb
 25 .neq false 22 24], .k 25 (.q [.o [.f 4], .ret]) .skip], .q [.o [.fa 26 4 2, .ln 27 26, .fa 28 4 3, .ln 29 28, .bb 30 .neq false 27 29], .k 30 (.q [.o [.f 4], .ret]) .skip], .o [.t 4], .ret]
def uZ_ : LF := ⟨2, 31, c53, [.tmp 4]⟩
theorem xu_ : av_ prog Tryz.f53 uZ_ := am_
def c19 : LC :=
 .q [.o [.bx 2 44 0, .ki 4 0], .o [.fa 5 1 2, .ld 6 5 5, .m 7 1, .c2 8 38 6 7, .m 1 8], .q [.o [.m 9 1, .bk 10 .lss false 9 0], .k 10 (.q [.o [.s 4 (.mov (.const (.int .i64 (-1))))], .ret]) .skip], .o [.m 11 1, .m 4 11],
 .ret]
def vr_ : LF := ⟨2, 12, c19, [.tmp 4]⟩
theorem wJ_ : av_ prog Tryz.f19 vr_ := am_
def c22 : LC :=
 .q [.o [.bx 1 44 0, .s 2 (.alloc 49 (.agg #[.int .i64 0, .int .i64 0, .string ⟨#[]⟩, .slice none 0 0, .string ⟨#[]⟩, .int .i64 0]))], .o [.s 3 (.alloc 49 (.agg #[.int .i64 0, .int .i64 0, .string ⟨#[]⟩, .slice none 0 0,
 .string ⟨#[]⟩, .int .i64 0]))], .o [.fa 4 0 1, .ln 5 4, .fa 6 0 3, .st 1 6 5], .o [.fa 7 1 1, .ld 8 5 7, .c1 9 42 8, .fa 10 1 3, .st 5 10 9], .o [.ld 11 6 3, .st 6 2 11], .ret]
def rM_ : LF := ⟨1, 12, c22, [.cell 2 (some 6)]⟩
theorem tj_ : av_ prog Tryz.f22 rM_ := am_
def c26 : LC :=
 .q [.o [.bx 2 49 0, .bx 3 49 1, .f 4], .q [.o [.fa 5 0 2, .ln 6 5, .fa 7 0 3, .ln 8 7, .bb 9 .neq false 6 8], .k 9 (.q [.o [.f 4], .ret]) .skip], .q [.o [.fa 10 1 2, .ld 11 5 10, .fa 12 1 3, .ld 13 5 12, .c2 14 53 11 13,
 .nt 15 14], .k 15 (.q [.o [.f 4], .ret]) .skip], .o [.t 4], .ret]
def vS_ : LF := ⟨2, 16, c26, [.tmp 4]⟩
theorem xv_ : av_ prog Tryz.f26 vS_ := am_
def c5 : LC :=
 .q [.o [.ki 4 0], .o [.m 6 1, .m 7 0, .ll 8 7, .bb 9 .sub false 6 8, .m 1 9], .q [.o [.m 10 1, .bk 11 .lss false 10 0], .k 11 (.q [.o [.s 4 (.mov (.const (.int .i64 (-1))))], .ret]) .skip], .q [.o [.ki 5 0], .block 0
 (.loop (.q [.q [.o [.m 12 5, .m 13 0, .ll 14 13, .bb 15 .lss false 12 14], .k 15 .skip (.exit 0)], .block 1 (.q [.o [.m 18 0, .m 19 5, .ia 20 6 18 19, .ld 21 6 20, .m 22 1, .c2 23 19 21 22, .m 1 23], .o [.m 24 1, .bk 25
 .lss false 24 0], .k 25 (.q [.o [.s 4 (.mov (.const (.int .i64 (-1))))], .ret]) .skip]), .o [.m 16 5, .bk 17 .add false 16 1, .m 5 17]]))], .o [.m 26 1, .m 4 26], .ret]
def lf5 : LF := ⟨2, 27, c5, [.tmp 4]⟩
theorem x1_ : av_ prog Tryz.f5 lf5 := am_
def c7 : LC :=
 .q [.o [.nl 2], .o [.m 5 0, .ll 6 5, .s 7 (.mkSlice 49 6 80 (.agg #[.int .i64 0, .int .i64 0, .string ⟨#[]⟩, .slice none 0 0, .string ⟨#[]⟩, .int .i64 0]) (.tmp 6) (.tmp 6)), .m 3 7], .q [.o [.ki 4 0], .block 0 (.loop
 (.q [.q [.o [.m 8 4, .m 9 0, .ll 10 9, .bb 11 .lss false 8 10], .k 11 .skip (.exit 0)], .block 1 (.o [.m 14 3, .m 15 4, .m 16 0, .m 17 4, .ia 18 6 16 17, .ld 19 6 18, .c1 20 22 19, .ia 21 6 14 15, .st 6 21 20]), .o [.m
 12 4, .bk 13 .add false 12 1, .m 4 13]]))], .o [.m 22 3, .m 2 22], .ret]
def lf7 : LF := ⟨1, 23, c7, [.tmp 2]⟩
theorem wj_ : av_ prog Tryz.f7 lf7 := am_
def c10 : LC :=
 .q [.o [.f 4], .q [.o [.m 6 0, .ll 7 6, .m 8 1, .ll 9 8, .bb 10 .neq false 7 9], .k 10 (.q [.o [.f 4], .ret]) .skip], .q [.o [.ki 5 0], .block 0 (.loop (.q [.q [.o [.m 11 5, .m 12 0, .ll 13 12, .bb 14 .lss false 11 13],
 .k 14 .skip (.exit 0)], .block 1 (.q [.dops [.m 17 0, .m 18 5, .ia 19 6 17 18, .ld 20 6 19, .m 21 1, .m 22 5, .ia 23 6 21 22, .ld 24 6 23, .c2 25 26 20 24, .nt 26 25], .k 26 (.q [.o [.f 4], .ret]) .skip]), .o [.m 15 5,
 .bk 16 .add false 15 1, .m 5 16]]))], .o [.t 4], .ret]
def wk_ : LF := ⟨2, 27, c10, [.tmp 4]⟩
theorem wW_ : av_ prog Tryz.f10 wk_ := am_
def c16 : LC :=
 .q [.o [.f 4], .q [.o [.m 6 0, .ll 7 6, .m 8 1, .ll 9 8, .bb 10 .neq false 7 9], .k 10 (.q [.o [.f 4], .ret]) .skip], .q [.o [.ki 5 0], .block 0 (.loop (.q [.q [.o [.m 11 5, .m 12 0, .ll 13 12, .bb 14 .lss false 11 13],
 .k 14 .skip (.exit 0)], .block 1 (.q [.dops [.m 17 0, .m 18 5, .ia 19 1 17 18, .ln 20 19, .m 21 1, .m 22 5, .ia 23 1 21 22, .ln 24 23, .bb 25 .neq false 20 24], .k 25 (.q [.o [.f 4], .ret]) .skip]), .o [.m 15 5, .bk 16
 .add false 15 1, .m 5 16]]))], .o [.t 4], .ret]
def un_ : LF := ⟨2, 26, c16, [.tmp 4]⟩
theorem w1_ : av_ prog Tryz.f16 un_ := am_
theorem mR_ (xs : List ByteArray) (l : Int) (h0 : 0 ≤ l) (h1 : l ≤ 1048576) (hw : gA_ fd_ xs) (h : List Row) : aa_ prog 60 [.list 0 1 (xs.map aF_), .val (.int .i64 l)] h (.val (.int .i64 (szR (aI_ ByteArray.size xs) l))) := by
 obtain ⟨hx, hs⟩ := hw
 refine ap_ mixed Tryz.func60 wH_ rfl rfl ?_ h
 simp (disch := omega) only [vZ_, c60, ar_, go_sem, reduceEqDiff, reduceCtorEq, Int.reduceNeg, ↓reduceIte, aq_]
 refine ⟨fun hn => ?_, fun hn => ?_⟩
 ·rw [c1_ (by simp only [aI_]; omega)]; exact ae_ _ _
 ·refine aB_ (fun n t h => ∃ (k : Nat) (m : Int), t 0 = .list 0 1 (xs.map aF_) ∧ t 5 = .val (.int .i64 k) ∧ t 1 = .val (.int .i64 m) ∧ h = [] ∧ n = xs.length - k ∧ k ≤ xs.length ∧ 0 ≤ m ∧ m ≤ 1048576 ∧ szR (aI_ ByteArray.size xs) l = szR (c3_ ByteArray.size (xs.drop k)) m) xs.length ?_ ?_
  ·exact ⟨0, l - xs.length, rfl, rfl, rfl, rfl, rfl, Nat.zero_le _, by omega, by omega, jf_ (by omega)⟩
  ·rintro J hJ n t h ⟨k, m, t0, t5, t1, rfl, rfl, hk, hm0, hm1, hS⟩
   by_cases hlt : k < xs.length
   ·have hd := ke_ ByteArray.size xs k hlt
    have hwk := hs _ (getElem_mem hlt)
    rw [hd] at hS
    unfold fd_ at hwk
    simp (disch := omega) only [t0, t5, t1, hlt, ar_, go_sem, reduceEqDiff, reduceCtorEq, Int.reduceNeg, ↓reduceIte, aq_]
    refine ⟨fun hn2 => ?_, fun hn2 => ?_⟩
    ·rw [hS, c1_ (by omega)]; exact ae_ _ _
    ·exact ⟨xs.length - (k + 1), by omega, hJ _ _ _ ⟨k + 1, m - xs[k].size, by simp [upd, t0], by simp [upd], by simp [upd], rfl, rfl, by omega, by omega, by omega, by rw [hS, jf_ (by omega)]⟩⟩
   ·simp (disch := omega) only [t0, t5, t1, hlt, ar_, go_sem, reduceEqDiff, reduceCtorEq, Int.reduceNeg, ↓reduceIte]
    rw [hS, drop_eq_nil_of_le (by omega), e2_ (by simp only [c3_]; omega)]
    simp only [c3_, Int.natCast_zero, Int.sub_zero]
    exact ae_ _ _
theorem nX_ (xs : List ByteArray) (hb : (aI_ ByteArray.size) xs ≤ 1048576) (h : List Row) : aa_ prog 70 [.list 0 1 (xs.map aF_)] h (.list 0 1 (xs.map aF_)) := by
 have hx := Nat.le_trans (ci_ (f := ByteArray.size) (xs := xs)) hb
 refine ap_ mixed Tryz.func70 ta_ rfl rfl ?_ h
 simp (disch := omega) only [rr_, c70, go_sem, reduceCtorEq, ↓reduceIte]
 refine ⟨by omega, by omega, ?_⟩
 refine aB_ (fun n t h => ∃ k : Nat, t 0 = .list 0 1 (xs.map aF_) ∧ t 3 = .own 0 xs.length ∧ t 4 = .val (.int .i64 k) ∧ h = [⟨9, 1, bI_ (xs.map aF_) [.val (.string ⟨#[]⟩)] k⟩] ∧ n = xs.length - k ∧ k ≤ xs.length) xs.length ?_ ?_
 ·exact ⟨0, rfl, rfl, rfl, by rw [hr_]; simp, rfl, Nat.zero_le _⟩
 ·rintro J hJ n t h ⟨k, t0, t3, t4, rfl, rfl, hk⟩
  have fl : (bI_ (xs.map aF_) [.val (.string ⟨#[]⟩)] k).length = xs.length := by rw [f4_ _ _ (by simpa using hk)]; simp
  by_cases hlt : k < xs.length
  ·have fg : (bI_ (xs.map aF_) [.val (.string ⟨#[]⟩)] k)[k]? = some [.val (.string ⟨#[]⟩)] := h8_ _ _ (by simpa using hlt)
   have fs := he_ (xs.map aF_) [.val (.string ⟨#[]⟩)] (aF_ xs[k]) (k := k) (by rw [getElem?_map, getElem?_eq_getElem hlt]; rfl)
   simp (disch := omega) only [t0, t3, t4, hlt, fl, fg, ar_, go_sem, reduceEqDiff, reduceCtorEq, ↓reduceIte, aq_]
   try simp (disch := omega) only [fs, go_sem]
   exact ⟨xs.length - (k + 1), by omega, hJ _ _ _ ⟨k + 1, by simp [upd, t0], by simp [upd, t3], by simp [upd], by simp [], rfl, by omega⟩⟩
  ·simp (disch := omega) only [t0, t3, t4, hlt, fl, ar_, go_sem, reduceEqDiff, reduceCtorEq, ↓reduceIte]
   have ff : bI_ (xs.map aF_) [.val (.string ⟨#[]⟩)] k = xs.map aF_ := hU_ _ _ (by simp; omega)
   rw [ff]
   exact jm_ (r := ⟨9, 1, xs.map aF_⟩) rfl (by simp) (by intro e he; obtain ⟨x, _, q⟩ := mem_map.1 he; subst q; rfl)
theorem nH_ (xs : List ByteArray) (hb : (aI_ ByteArray.size) xs ≤ 1048576) (h : List Row) : aa_ prog 83 [.list 0 1 (xs.map aF_), .list 0 1 (xs.map aF_)] h (.val (.bool true)) := by
 have hx := Nat.le_trans (ci_ (f := ByteArray.size) (xs := xs)) hb
 refine ap_ mixed Tryz.func83 xC_ rfl rfl ?_ h
 simp (disch := omega) only [uC_, c83, ar_, go_sem, reduceEqDiff, reduceCtorEq, ↓reduceIte]
 refine aB_ (fun n t h => ∃ k : Nat, t 0 = .list 0 1 (xs.map aF_) ∧ t 1 = .list 0 1 (xs.map aF_) ∧ t 5 = .val (.int .i64 k) ∧ h = [] ∧ n = xs.length - k ∧ k ≤ xs.length) xs.length ?_ ?_
 ·exact ⟨0, rfl, rfl, rfl, rfl, rfl, Nat.zero_le _⟩
 ·rintro J hJ n t h ⟨k, t0, t1, t5, rfl, rfl, hk⟩
  by_cases hlt : k < xs.length
  ·simp (disch := omega) only [t0, t1, t5, hlt, ar_, go_sem, reduceEqDiff, reduceCtorEq, ↓reduceIte, aq_]
   exact ⟨xs.length - (k + 1), by omega, hJ _ _ _ ⟨k + 1, by simp [upd, t0], by simp [upd, t1], by simp [upd], rfl, rfl, by omega⟩⟩
  ·simp (disch := omega) only [t0, t1, t5, hlt, ar_, go_sem, reduceEqDiff, reduceCtorEq, ↓reduceIte, aq_]
   exact ae_ _ _
theorem pP_ (x : ad_) (l : Int) (h0 : 0 ≤ l) (h1 : l ≤ 1048576) (hw : ad_.wf x) (h : List Row) : aa_ prog 38 [.agg (ad_.cells x), .val (.int .i64 l)] h (.val (.int .i64 (szR (ad_.sz x) l))) := by
 obtain ⟨w_Kind, w_Name, w_Subs, w_Value, w_N, _⟩ := hw
 have hsz : ad_.sz x = ByteArray.size x.Name + (aI_ ByteArray.size) x.Subs + ByteArray.size x.Value := rfl
 refine ap_ mixed Tryz.func38 xt_ rfl rfl ?_ h
 unfold fd_ at w_Name
 unfold fd_ at w_Value
 simp (disch := omega) only [um_, c38, ad_.cells, ar_, go_sem, reduceEqDiff, Nat.reduceAdd, Int.reduceNeg, ↓reduceIte, aq_]
 refine ⟨fun hn => ?_, fun hn_Name => ?_⟩
 ·rw [c1_ (by omega)]; exact ae_ _ _
 try simp (disch := omega) only [aq_]
 refine aa_.call (mR_ x.Subs (l - ByteArray.size x.Name) (by omega) (by omega) w_Subs _) ?_
 by_cases hn_Subs : ((aI_ ByteArray.size) x.Subs : Int) ≤ l - ByteArray.size x.Name
 case neg =>
  rw [c1_ (n := (aI_ ByteArray.size) x.Subs) (l := l - ByteArray.size x.Name) (by omega)]
  simp (disch := omega) only [ar_, go_sem, reduceEqDiff, Int.reduceNeg, ↓reduceIte, aq_]
  rw [c1_ (by omega)]; exact ae_ _ _
 rw [e2_ (n := (aI_ ByteArray.size) x.Subs) (l := l - ByteArray.size x.Name) hn_Subs]
 simp (disch := omega) only [ar_, go_sem, reduceEqDiff, Int.reduceNeg, ↓reduceIte, aq_]
 refine ⟨fun hn => absurd hn (by omega), fun _ => ?_⟩
 refine ⟨fun hn => ?_, fun hn_Value => ?_⟩
 ·rw [c1_ (by omega)]; exact ae_ _ _
 try simp (disch := omega) only [aq_]
 rw [e2_ (by omega), hsz]
 have hfin : l - ((ByteArray.size x.Name + (aI_ ByteArray.size) x.Subs + ByteArray.size x.Value : Nat) : Int) = l - ByteArray.size x.Name - (aI_ ByteArray.size) x.Subs - ByteArray.size x.Value := by omega
 rw [hfin]; exact ae_ _ _
theorem pN_ (x : ad_) (hb : ad_.sz x ≤ 1048576) (h : List Row) : aa_ prog 42 [.agg (ad_.cells x)] h (.agg (ad_.cells x)) := by
 have hsz : ad_.sz x = ByteArray.size x.Name + (aI_ ByteArray.size) x.Subs + ByteArray.size x.Value := rfl
 refine ap_ mixed Tryz.func42 sW_ rfl rfl ?_ h
 simp (disch := omega) only [rQ_, c42, ad_.cells, go_sem, reduceEqDiff, Nat.reduceAdd, reduceLeDiff, ↓reduceIte]
 refine aa_.call (nX_ x.Subs (by omega) _) ?_
 simp (disch := omega) only [go_sem, reduceEqDiff, Nat.reduceAdd, reduceLeDiff, ↓reduceIte, fS_]
 exact jy_ _ _ rfl
theorem pk_ (x : ad_) (hb : ad_.sz x ≤ 1048576) (h : List Row) : aa_ prog 53 [.agg (ad_.cells x), .agg (ad_.cells x)] h (.val (.bool true)) := by
 have hsz : ad_.sz x = ByteArray.size x.Name + (aI_ ByteArray.size) x.Subs + ByteArray.size x.Value := rfl
 refine ap_ mixed Tryz.func53 xu_ rfl rfl ?_ h
 simp (disch := omega) only [uZ_, c53, ad_.cells, ar_, go_sem, reduceEqDiff, Nat.reduceAdd, ↓reduceIte]
 refine aa_.call (nH_ x.Subs (by omega) _) ?_
 simp (disch := omega) only [ar_, go_sem, reduceEqDiff, ↓reduceIte]
 exact ae_ _ _
theorem qb_ (x : ab_) (l : Int) (h0 : 0 ≤ l) (h1 : l ≤ 1048576) (hw : ab_.wf x) (h : List Row) : aa_ prog 19 [.agg (ab_.cells x), .val (.int .i64 l)] h (.val (.int .i64 (szR (ab_.sz x) l))) := by
 obtain ⟨w_Job, w_Event, _⟩ := hw
 have hsz : ab_.sz x = ad_.sz x.Event := rfl
 refine ap_ mixed Tryz.func19 wJ_ rfl rfl ?_ h
 simp (disch := omega) only [vr_, c19, ab_.cells, go_sem, reduceEqDiff, Nat.reduceAdd, Int.reduceNeg, ↓reduceIte]
 refine aa_.call (pP_ x.Event (l) (by omega) (by omega) w_Event _) ?_
 by_cases hn_Event : (ad_.sz x.Event : Int) ≤ l
 case neg =>
  rw [c1_ (n := ad_.sz x.Event) (l := l) (by omega)]
  simp (disch := omega) only [ar_, go_sem, reduceEqDiff, Int.reduceNeg, ↓reduceIte]
  rw [c1_ (by omega)]; exact ae_ _ _
 rw [e2_ (n := ad_.sz x.Event) (l := l) hn_Event]
 simp (disch := omega) only [ar_, go_sem, reduceEqDiff, Int.reduceNeg, ↓reduceIte]
 refine ⟨fun hn => absurd hn (by omega), fun _ => ?_⟩
 rw [e2_ (by omega), hsz]
 have hfin : l - ((ad_.sz x.Event : Nat) : Int) = l - ad_.sz x.Event := by omega
 rw [hfin]; exact ae_ _ _
theorem pz_ (x : ab_) (hb : ab_.sz x ≤ 1048576) (h : List Row) : aa_ prog 22 [.agg (ab_.cells x)] h (.agg (ab_.cells x)) := by
 have hsz : ab_.sz x = ad_.sz x.Event := rfl
 refine ap_ mixed Tryz.func22 tj_ rfl rfl ?_ h
 simp (disch := omega) only [rM_, c22, ab_.cells, go_sem, reduceEqDiff, Nat.reduceAdd, reduceLeDiff, ↓reduceIte]
 refine aa_.call (pN_ x.Event (by omega) _) ?_
 simp (disch := omega) only [ad_.cells, go_sem, reduceEqDiff, Nat.reduceAdd, ↓reduceIte, fS_]
 exact jy_ _ _ rfl
theorem pr_ (x : ab_) (hb : ab_.sz x ≤ 1048576) (h : List Row) : aa_ prog 26 [.agg (ab_.cells x), .agg (ab_.cells x)] h (.val (.bool true)) := by
 have hsz : ab_.sz x = ad_.sz x.Event := rfl
 refine ap_ mixed Tryz.func26 xv_ rfl rfl ?_ h
 simp (disch := omega) only [vS_, c26, ab_.cells, ar_, go_sem, reduceEqDiff, Nat.reduceAdd, ↓reduceIte]
 refine aa_.call (pk_ x.Event (by omega) _) ?_
 simp (disch := omega) only [ar_, go_sem, ↓reduceIte]
 exact ae_ _ _
theorem on_ (xs : List ab_) (l : Int) (h0 : 0 ≤ l) (h1 : l ≤ 1048576) (hw : gA_ ab_.wf xs) (h : List Row) : aa_ prog 5 [.list 0 6 (xs.map ab_.cells), .val (.int .i64 l)] h (.val (.int .i64 (szR (aI_ ab_.sz xs) l))) := by
 obtain ⟨hx, hs⟩ := hw
 refine ap_ mixed Tryz.func5 x1_ rfl rfl ?_ h
 simp (disch := omega) only [lf5, c5, ar_, go_sem, reduceEqDiff, reduceCtorEq, Int.reduceNeg, ↓reduceIte, aq_]
 refine ⟨fun hn => ?_, fun hn => ?_⟩
 ·rw [c1_ (by simp only [aI_]; omega)]; exact ae_ _ _
 ·refine aB_ (fun n t h => ∃ (k : Nat) (m : Int), t 0 = .list 0 6 (xs.map ab_.cells) ∧ t 5 = .val (.int .i64 k) ∧ t 1 = .val (.int .i64 m) ∧ h = [] ∧ n = xs.length - k ∧ k ≤ xs.length ∧ 0 ≤ m ∧ m ≤ 1048576 ∧ szR (aI_ ab_.sz xs) l = szR (c3_ ab_.sz (xs.drop k)) m) xs.length ?_ ?_
  ·exact ⟨0, l - xs.length, rfl, rfl, rfl, rfl, rfl, Nat.zero_le _, by omega, by omega, jf_ (by omega)⟩
  ·rintro J hJ n t h ⟨k, m, t0, t5, t1, rfl, rfl, hk, hm0, hm1, hS⟩
   by_cases hlt : k < xs.length
   ·have hd := ke_ ab_.sz xs k hlt
    have hwk := hs _ (getElem_mem hlt)
    rw [hd] at hS
    simp (disch := omega) only [t0, t5, t1, hlt, ab_.cells, ar_, go_sem, reduceEqDiff, Nat.reduceAdd, reduceCtorEq, Int.reduceNeg, ↓reduceIte]
    refine aa_.call (qb_ xs[k] m hm0 hm1 hwk []) ?_
    by_cases hc : (ab_.sz xs[k] : Int) ≤ m
    ·rw [e2_ (n := ab_.sz xs[k]) (l := m) hc]
     simp (disch := omega) only [t5, ar_, go_sem, reduceEqDiff, Int.reduceNeg, ↓reduceIte, aq_]
     refine ⟨fun hn2 => absurd hn2 (by omega), fun _ => ?_⟩
     exact ⟨xs.length - (k + 1), by omega, hJ _ _ _ ⟨k + 1, m - ab_.sz xs[k], by simp [upd, t0], by simp [upd], by simp [upd], rfl, rfl, by omega, by omega, by omega, by rw [hS, jf_ (by omega)]⟩⟩
    ·rw [c1_ (n := ab_.sz xs[k]) (l := m) (by omega)]
     simp (disch := omega) only [t5, ar_, go_sem, reduceEqDiff, Int.reduceNeg, ↓reduceIte, aq_]
     rw [hS, c1_ (by omega)]; exact ae_ _ _
   ·simp (disch := omega) only [t0, t5, t1, hlt, ar_, go_sem, reduceEqDiff, reduceCtorEq, Int.reduceNeg, ↓reduceIte]
    rw [hS, drop_eq_nil_of_le (by omega), e2_ (by simp only [c3_]; omega)]
    simp only [c3_, Int.natCast_zero, Int.sub_zero]
    exact ae_ _ _
theorem dU_ (xs : List ab_) (hb : (aI_ ab_.sz) xs ≤ 1048576) (h : List Row) : aa_ prog 7 [.list 0 6 (xs.map ab_.cells)] h (.list 0 6 (xs.map ab_.cells)) := by
 have hx := Nat.le_trans (ci_ (f := ab_.sz) (xs := xs)) hb
 refine ap_ mixed Tryz.func7 wj_ rfl rfl ?_ h
 simp (disch := omega) only [lf7, c7, go_sem, reduceCtorEq, ↓reduceIte]
 refine ⟨by omega, by omega, ?_⟩
 refine aB_ (fun n t h => ∃ k : Nat, t 0 = .list 0 6 (xs.map ab_.cells) ∧ t 3 = .own 0 xs.length ∧ t 4 = .val (.int .i64 k) ∧ h = [⟨49, 6, bI_ (xs.map ab_.cells) [.val (.int .i64 0), .val (.int .i64 0), .val (.string ⟨#[]⟩), .val (.slice none 0 0), .val (.string ⟨#[]⟩), .val (.int .i64 0)] k⟩] ∧ n = xs.length - k ∧ k ≤ xs.length) xs.length ?_ ?_
 ·exact ⟨0, rfl, rfl, rfl, by rw [hr_]; simp, rfl, Nat.zero_le _⟩
 ·rintro J hJ n t h ⟨k, t0, t3, t4, rfl, rfl, hk⟩
  have fl : (bI_ (xs.map ab_.cells) [.val (.int .i64 0), .val (.int .i64 0), .val (.string ⟨#[]⟩), .val (.slice none 0 0), .val (.string ⟨#[]⟩), .val (.int .i64 0)] k).length = xs.length := by rw [f4_ _ _ (by simpa using hk)]; simp
  by_cases hlt : k < xs.length
  ·have fg : (bI_ (xs.map ab_.cells) [.val (.int .i64 0), .val (.int .i64 0), .val (.string ⟨#[]⟩), .val (.slice none 0 0), .val (.string ⟨#[]⟩), .val (.int .i64 0)] k)[k]? = some [.val (.int .i64 0), .val (.int .i64 0), .val (.string ⟨#[]⟩), .val (.slice none 0 0), .val (.string ⟨#[]⟩), .val (.int .i64 0)] := h8_ _ _ (by simpa using hlt)
   have fs := he_ (xs.map ab_.cells) [.val (.int .i64 0), .val (.int .i64 0), .val (.string ⟨#[]⟩), .val (.slice none 0 0), .val (.string ⟨#[]⟩), .val (.int .i64 0)] (ab_.cells xs[k]) (k := k) (by rw [getElem?_map, getElem?_eq_getElem hlt]; rfl)
   simp only [ab_.cells] at fs
   simp (disch := omega) only [t0, t3, t4, hlt, ab_.cells, ar_, go_sem, reduceEqDiff, Nat.reduceAdd, reduceCtorEq, ↓reduceIte]
   refine aa_.call (pz_ xs[k] (by have := c2_ (f := ab_.sz) (getElem_mem hlt); omega) _) ?_
   simp (disch := omega) only [t4, hlt, fl, fg, fs, ab_.cells, go_sem, reduceEqDiff, Nat.reduceAdd, ↓reduceIte, aq_]
   exact ⟨xs.length - (k + 1), by omega, hJ _ _ _ ⟨k + 1, by simp [upd, t0], by simp [upd, t3], by simp [upd], rfl, rfl, by omega⟩⟩
  ·simp (disch := omega) only [t0, t3, t4, hlt, ar_, go_sem, reduceEqDiff, reduceCtorEq, ↓reduceIte]
   have ff : bI_ (xs.map ab_.cells) [.val (.int .i64 0), .val (.int .i64 0), .val (.string ⟨#[]⟩), .val (.slice none 0 0), .val (.string ⟨#[]⟩), .val (.int .i64 0)] k = xs.map ab_.cells := hU_ _ _ (by simp; omega)
   rw [ff]
   exact jm_ (r := ⟨49, 6, xs.map ab_.cells⟩) rfl (by simp) (by intro e he; obtain ⟨x, _, q⟩ := mem_map.1 he; subst q; rfl)
theorem jD_ (xs : List ab_) (hb : (aI_ ab_.sz) xs ≤ 1048576) (h : List Row) : aa_ prog 10 [.list 0 6 (xs.map ab_.cells), .list 0 6 (xs.map ab_.cells)] h (.val (.bool true)) := by
 have hx := Nat.le_trans (ci_ (f := ab_.sz) (xs := xs)) hb
 refine ap_ mixed Tryz.func10 wW_ rfl rfl ?_ h
 simp (disch := omega) only [wk_, c10, ar_, go_sem, reduceEqDiff, reduceCtorEq, ↓reduceIte]
 refine aB_ (fun n t h => ∃ k : Nat, t 0 = .list 0 6 (xs.map ab_.cells) ∧ t 1 = .list 0 6 (xs.map ab_.cells) ∧ t 5 = .val (.int .i64 k) ∧ h = [] ∧ n = xs.length - k ∧ k ≤ xs.length) xs.length ?_ ?_
 ·exact ⟨0, rfl, rfl, rfl, rfl, rfl, Nat.zero_le _⟩
 ·rintro J hJ n t h ⟨k, t0, t1, t5, rfl, rfl, hk⟩
  by_cases hlt : k < xs.length
  ·simp (disch := omega) only [t0, t1, t5, hlt, ab_.cells, ar_, go_sem, reduceEqDiff, Nat.reduceAdd, reduceCtorEq, ↓reduceIte, aq_]
   refine aa_.q (pr_ xs[k] (by have := c2_ (f := ab_.sz) (getElem_mem hlt); omega) _) ?_
   simp (disch := omega) only [go_sem]
   exact ⟨xs.length - (k + 1), by omega, hJ _ _ _ ⟨k + 1, by simp [upd, t0], by simp [upd, t1], by simp [upd], rfl, rfl, by omega⟩⟩
  ·simp (disch := omega) only [t0, t1, t5, hlt, ar_, go_sem, reduceEqDiff, reduceCtorEq, ↓reduceIte, aq_]
   exact ae_ _ _
theorem fN_ (xs : List Int) (hb : (aI_ (fun _ => 0)) xs ≤ 1048576) (h : List Row) : aa_ prog 16 [.list 0 1 (xs.map bS_), .list 0 1 (xs.map bS_)] h (.val (.bool true)) := by
 have hx := Nat.le_trans (ci_ (f := (fun _ => 0)) (xs := xs)) hb
 refine ap_ mixed Tryz.func16 w1_ rfl rfl ?_ h
 simp (disch := omega) only [un_, c16, ar_, go_sem, reduceEqDiff, reduceCtorEq, ↓reduceIte]
 refine aB_ (fun n t h => ∃ k : Nat, t 0 = .list 0 1 (xs.map bS_) ∧ t 1 = .list 0 1 (xs.map bS_) ∧ t 5 = .val (.int .i64 k) ∧ h = [] ∧ n = xs.length - k ∧ k ≤ xs.length) xs.length ?_ ?_
 ·exact ⟨0, rfl, rfl, rfl, rfl, rfl, Nat.zero_le _⟩
 ·rintro J hJ n t h ⟨k, t0, t1, t5, rfl, rfl, hk⟩
  by_cases hlt : k < xs.length
  ·simp (disch := omega) only [t0, t1, t5, hlt, ar_, go_sem, reduceEqDiff, reduceCtorEq, ↓reduceIte, aq_]
   exact ⟨xs.length - (k + 1), by omega, hJ _ _ _ ⟨k + 1, by simp [upd, t0], by simp [upd, t1], by simp [upd], rfl, rfl, by omega⟩⟩
  ·simp (disch := omega) only [t0, t1, t5, hlt, ar_, go_sem, reduceEqDiff, reduceCtorEq, ↓reduceIte, aq_]
   exact ae_ _ _
end Go.Proofs.YtddmifalinefnaaGreatDoor
