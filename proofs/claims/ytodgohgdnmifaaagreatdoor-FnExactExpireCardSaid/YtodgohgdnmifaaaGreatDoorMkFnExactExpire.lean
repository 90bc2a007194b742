/-
 Contracts of functions. Conditions: as each theorem says.
-/
import Derived.Test.YtodgohgdnmifaaaGreatDoorGnFnExactExpire
import Derived.Test.YtodgohgdnmifaaaGreatDoorAwC
import Derived.Test.YtodgohgdnmifaaaGreatDoorPlNum
namespace Go.Proofs.YtodgohgdnmifaaaGreatDoor
open Tryz (prog)
open Nat (reduceEqDiff reduceLeDiff)
open List
open Go.AW
set_option linter.unusedVariables false
set_option linter.unusedSimpArgs false
set_option maxRecDepth 4000
def az_ (k : Int) : ByteArray := if k ≤ 0 then txt [109, 48] else txt (109 :: bT_ k.toNat)
theorem oI_ (u : Nat) (h : u ≠ 0) : bT_ u = bT_ (u / 10) ++ [UInt8.ofNat (48 + u % 10)] := by
 unfold bT_
 rw [if_neg h, Lib.decDigits]
 by_cases q : u < 10
 ·rw [dif_pos q, if_pos (by omega)]
  have : u % 10 = u := by omega
  rw [this]; rfl
 ·rw [dif_neg q, if_neg (by omega)]
theorem od_ (u : Nat) (h : u ≤ 4611686018427387904) : (bT_ u).length ≤ 19 := by
 unfold bT_
 split
 ·simp
 ·rw [Go.Lib.decDigits_length]; exact gL_ 18 _ (by omega)
def c61 : LC :=
 .q [.o [.s 2 (.mov (.const (.string ⟨#[]⟩)))], .q [.o [.m 4 0, .bk 5 .leq false 4 0], .k 5 (.q [.o [.s 2 (.mov (.const (.string ⟨#[109, 48]⟩)))], .ret]) .skip], .o [.s 3 (.mov (.const (.string ⟨#[]⟩)))], .block 0 (.loop
 (.q [.q [.o [.m 6 0, .bk 7 .gtr false 6 0], .k 7 .skip (.exit 0)], .block 1 (.q [.o [.m 8 0, .bk 9 .rem false 8 10, .s 10 (.bin .add false (.const (.int .i64 48)) (.tmp 9)), .s 11 (.convInt .u8 (.tmp 10)), .s 12
 (.buildSlice 5 1 (.int .u8 0) 1 [(0, .tmp 11)]), .s 13 (.toStr (.tmp 12)), .m 14 3, .bb 15 .add false 13 14, .m 3 15], .o [.m 16 0, .bk 17 .quo false 16 10, .m 0 17]])])), .o [.m 18 3, .s 19 (.bin .add false (.const
 (.string ⟨#[109]⟩)) (.tmp 18)), .m 2 19], .ret]
def sB_ : LF := ⟨1, 20, c61, [.tmp 2]⟩
theorem x3_ : aA_ prog Tryz.f61 sB_ := ak_
theorem d2_ (k : Int) (hk : 0 ≤ k) (hb : k ≤ 4611686018427387904) (h : List Row) : aa_ prog 61 [.val (.int .i64 k)] h (.val (.string (az_ k))) := by
 refine ap_ mixed Tryz.func61 x3_ rfl rfl ?_ h
 by_cases h0 : k ≤ 0
 ·simp (disch := omega) only [sB_, c61, h0, go_sem, reduceCtorEq, ↓reduceIte]
  exact bA_ (by rw [az_, if_pos h0])
 ·simp (disch := omega) only [sB_, c61, h0, go_sem, reduceCtorEq, ↓reduceIte]
  have hL := od_ k.toNat (by omega)
  refine aE_ (fun n t h => ∃ (u : Nat) (out : List UInt8), t 0 = .val (.int .i64 u) ∧ t 3 = .val (.string (txt out)) ∧ u = n ∧ u ≤ 4611686018427387904 ∧ bT_ k.toNat = bT_ u ++ out) k.toNat ⟨k.toNat, [], by simp [upd, fw_]; omega, rfl, rfl, by omega, by simp⟩ ?_
  rintro J hJ n t h ⟨u, out, t0, t3, rfl, hu, hS⟩
  by_cases hz : 0 < u
  ·have hm := oI_ u (by omega)
   have hlen := congrArg List.length hS
   simp only [la_] at hlen
   have hl1 : ([UInt8.ofNat (48 + u % 10)] : List UInt8).length + out.length ≤ 9223372036854775807 := by simp only [lc_, ln_]; omega
   have e1 : ((u : Int) % 10).toNat = u % 10 := by omega
   have e2 : (48 + (u : Int) % 10).toNat = 48 + u % 10 := by omega
   have e3 : ((u : Int) / 10) = ((u / 10 : Nat) : Int) := by omega
   simp (disch := omega) only [t0, t3, hz, e2, e3, kH_ _ _ _ hl1, go_sem, reduceEqDiff, reduceCtorEq, ↓reduceIte]
   exact ⟨u / 10, by omega, hJ _ _ _ ⟨u / 10, UInt8.ofNat (48 + u % 10) :: out, by simp [upd], by simp [upd], rfl, by omega, by rw [hS, hm, append_assoc]; rfl⟩⟩
  ·have hz' : u = 0 := by omega
   subst hz'
   have hlen := congrArg List.length hS
   simp only [la_] at hlen
   have hl2 : ([109] : List UInt8).length + out.length ≤ 9223372036854775807 := by simp only [lc_, ln_]; omega
   simp (disch := omega) only [t0, t3, kH_ _ _ _ hl2, go_sem, reduceEqDiff, Int.reduceLT, ↓reduceIte]
   exact bA_ (by rw [az_, if_neg h0, hS]; rfl)
def c24 : LC :=
 .q [.o [.ki 4 0], .q [.o [.ki 5 0], .block 0 (.loop (.q [.q [.o [.m 6 5, .m 7 0, .ll 8 7, .bb 9 .lss false 6 8], .k 9 .skip (.exit 0)], .block 1 (.q [.o [.m 12 0, .m 13 5, .m 14 1, .c1 15 61 14, .ia 16 1 12 13, .st 1 16
 15], .o [.m 17 1, .bk 18 .add false 17 1, .m 1 18]]), .o [.m 10 5, .bk 11 .add false 10 1, .m 5 11]]))], .o [.m 19 1, .m 4 19], .ret]
def rC_ : LF := ⟨2, 20, c24, [.tmp 4]⟩
theorem tg_ : aA_ prog Tryz.f24 rC_ := ak_
def wB_ : LC :=
 .q [.o [.ki 4 0], .q [.o [.ki 5 0], .block 0 (.loop (.q [.q [.o [.m 6 5, .m 7 0, .ll 8 7, .bb 9 .lss false 6 8], .k 9 .skip (.exit 0)], .block 1 (.q [.q [.dops [.m 12 0, .m 13 5, .ia 14 1 12 13, .ln 15 14, .m 16 1, .c1
 17 61 16, .bb 18 .neq false 15 17], .k 18 (.q [.o [.s 4 (.mov (.const (.int .i64 (-1))))], .ret]) .skip], .o [.m 19 1, .bk 20 .add false 19 1, .m 1 20]]), .o [.m 10 5, .bk 11 .add false 10 1, .m 5 11]]))], .o [.m 21 1,
 .m 4 21], .ret]
def s8_ : LF := ⟨2, 22, wB_, [.tmp 4]⟩
theorem w2_ : aA_ prog Tryz.f104 s8_ := ak_
def c41 : LC :=
 .q [.o [.ki 4 0], .q [.o [.ki 5 0], .block 0 (.loop (.q [.q [.o [.m 6 5, .m 7 0, .ll 8 7, .bb 9 .lss false 6 8], .k 9 .skip (.exit 0)], .block 1 (.q [.o [.m 12 0, .m 13 5, .m 14 1, .ia 15 4 12 13, .fa 16 0 15, .st 1 16
 14], .o [.m 17 1, .bk 18 .add false 17 1, .m 1 18], .o [.m 19 0, .m 20 5, .m 21 1, .ia 22 4 19 20, .fa 23 1 22, .st 1 23 21], .o [.m 24 1, .bk 25 .add false 24 1, .m 1 25], .o [.m 26 0, .m 27 5, .m 28 1, .c1 29 61 28,
 .ia 30 4 26 27, .fa 31 2 30, .st 1 31 29], .o [.m 32 1, .bk 33 .add false 32 1, .m 1 33], .o [.m 34 0, .m 35 5, .ia 36 4 34 35, .fa 37 3 36, .ln 38 37, .m 39 1, .c2 40 24 38 39, .m 1 40]]), .o [.m 10 5, .bk 11 .add false
 10 1, .m 5 11]]))], .o [.m 41 1, .m 4 41], .ret]
def sj_ : LF := ⟨2, 42, c41, [.tmp 4]⟩
theorem tD_ : aA_ prog Tryz.f41 sj_ := ak_
def c62 : LC :=
 .q [.o [.ki 4 0], .q [.o [.ki 5 0], .block 0 (.loop (.q [.q [.o [.m 6 5, .m 7 0, .ll 8 7, .bb 9 .lss false 6 8], .k 9 .skip (.exit 0)], .block 1 (.q [.q [.o [.m 12 0, .m 13 5, .ia 14 4 12 13, .fa 15 0 14, .ln 16 15, .m
 17 1, .bb 18 .neq false 16 17], .k 18 (.q [.o [.s 4 (.mov (.const (.int .i64 (-1))))], .ret]) .skip], .o [.m 19 1, .bk 20 .add false 19 1, .m 1 20], .q [.o [.m 21 0, .m 22 5, .ia 23 4 21 22, .fa 24 1 23, .ln 25 24, .m 26
 1, .bb 27 .neq false 25 26], .k 27 (.q [.o [.s 4 (.mov (.const (.int .i64 (-1))))], .ret]) .skip], .o [.m 28 1, .bk 29 .add false 28 1, .m 1 29], .q [.dops [.m 30 0, .m 31 5, .ia 32 4 30 31, .fa 33 2 32, .ln 34 33, .m 35
 1, .c1 36 61 35, .bb 37 .neq false 34 36], .k 37 (.q [.o [.s 4 (.mov (.const (.int .i64 (-1))))], .ret]) .skip], .o [.m 38 1, .bk 39 .add false 38 1, .m 1 39], .o [.m 40 0, .m 41 5, .ia 42 4 40 41, .fa 43 3 42, .ln 44
 43, .m 45 1, .c2 46 104 44 45, .m 1 46], .o [.m 47 1, .bk 48 .lss false 47 0], .k 48 (.q [.o [.s 4 (.mov (.const (.int .i64 (-1))))], .ret]) .skip]), .o [.m 10 5, .bk 11 .add false 10 1, .m 5 11]]))], .o [.m 49 1, .m 4
 49], .ret]
def w7_ : LF := ⟨2, 50, c62, [.tmp 4]⟩
theorem yj_ : aA_ prog Tryz.f62 w7_ := ak_
def c42 : LC :=
 .q [.o [.ki 4 0], .q [.o [.ki 5 0], .block 0 (.loop (.q [.q [.o [.m 6 5, .m 7 0, .ll 8 7, .bb 9 .lss false 6 8], .k 9 .skip (.exit 0)], .block 1 (.q [.o [.m 12 0, .m 13 5, .m 14 1, .ia 15 4 12 13, .fa 16 0 15, .st 1 16
 14], .o [.m 17 1, .bk 18 .add false 17 1, .m 1 18], .o [.m 19 0, .m 20 5, .m 21 1, .ia 22 4 19 20, .fa 23 1 22, .st 1 23 21], .o [.m 24 1, .bk 25 .add false 24 1, .m 1 25], .o [.m 26 0, .m 27 5, .m 28 1, .c1 29 61 28,
 .ia 30 4 26 27, .fa 31 2 30, .st 1 31 29], .o [.m 32 1, .bk 33 .add false 32 1, .m 1 33], .o [.m 34 0, .m 35 5, .ia 36 4 34 35, .fa 37 3 36, .ln 38 37, .m 39 1, .c2 40 24 38 39, .m 1 40]]), .o [.m 10 5, .bk 11 .add false
 10 1, .m 5 11]]))], .o [.m 41 1, .m 4 41], .ret]
def sE_ : LF := ⟨2, 42, c42, [.tmp 4]⟩
theorem tW_ : aA_ prog Tryz.f42 sE_ := ak_
def c63 : LC :=
 .q [.o [.ki 4 0], .q [.o [.ki 5 0], .block 0 (.loop (.q [.q [.o [.m 6 5, .m 7 0, .ll 8 7, .bb 9 .lss false 6 8], .k 9 .skip (.exit 0)], .block 1 (.q [.q [.o [.m 12 0, .m 13 5, .ia 14 4 12 13, .fa 15 0 14, .ln 16 15, .m
 17 1, .bb 18 .neq false 16 17], .k 18 (.q [.o [.s 4 (.mov (.const (.int .i64 (-1))))], .ret]) .skip], .o [.m 19 1, .bk 20 .add false 19 1, .m 1 20], .q [.o [.m 21 0, .m 22 5, .ia 23 4 21 22, .fa 24 1 23, .ln 25 24, .m 26
 1, .bb 27 .neq false 25 26], .k 27 (.q [.o [.s 4 (.mov (.const (.int .i64 (-1))))], .ret]) .skip], .o [.m 28 1, .bk 29 .add false 28 1, .m 1 29], .q [.dops [.m 30 0, .m 31 5, .ia 32 4 30 31, .fa 33 2 32, .ln 34 33, .m 35
 1, .c1 36 61 35, .bb 37 .neq false 34 36], .k 37 (.q [.o [.s 4 (.mov (.const (.int .i64 (-1))))], .ret]) .skip], .o [.m 38 1, .bk 39 .add false 38 1, .m 1 39], .o [.m 40 0, .m 41 5, .ia 42 4 40 41, .fa 43 3 42, .ln 44
 43, .m 45 1, .c2 46 104 44 45, .m 1 46], .o [.m 47 1, .bk 48 .lss false 47 0], .k 48 (.q [.o [.s 4 (.mov (.const (.int .i64 (-1))))], .ret]) .skip]), .o [.m 10 5, .bk 11 .add false 10 1, .m 5 11]]))], .o [.m 49 1, .m 4
 49], .ret]
def wH_ : LF := ⟨2, 50, c63, [.tmp 4]⟩
theorem ys_ : aA_ prog Tryz.f63 wH_ := ak_
def c14 : LC :=
 .q [.o [.bx 2 32 0, .ki 4 0], .o [.fa 5 0 2, .ln 6 5, .m 7 1, .c2 8 41 6 7, .m 1 8], .o [.fa 9 1 2, .ln 10 9, .m 11 1, .c2 12 42 10 11, .m 1 12], .o [.m 13 1, .m 4 13], .ret]
def xM_ : LF := ⟨2, 14, c14, [.tmp 4]⟩
theorem yh_ : aA_ prog Tryz.f14 xM_ := ak_
def c25 : LC :=
 .q [.o [.bx 2 32 0, .ki 4 0], .o [.fa 5 0 2, .ln 6 5, .m 7 1, .c2 8 62 6 7, .m 1 8], .q [.o [.m 9 1, .bk 10 .lss false 9 0], .k 10 (.q [.o [.s 4 (.mov (.const (.int .i64 (-1))))], .ret]) .skip], .o [.fa 11 1 2, .ln 12
 11, .m 13 1, .c2 14 63 12 13, .m 1 14], .q [.o [.m 15 1, .bk 16 .lss false 15 0], .k 16 (.q [.o [.s 4 (.mov (.const (.int .i64 (-1))))], .ret]) .skip], .o [.m 17 1, .m 4 17], .ret]
def w5_ : LF := ⟨2, 18, c25, [.tmp 4]⟩
theorem yo_ : aA_ prog Tryz.f25 w5_ := ak_
def c15 : LC :=
 .q [.o [.ki 4 0], .q [.o [.ki 5 0], .block 0 (.loop (.q [.q [.o [.m 6 5, .m 7 0, .ll 8 7, .bb 9 .lss false 6 8], .k 9 .skip (.exit 0)], .block 1 (.q [.o [.m 12 0, .m 13 5, .m 14 1, .ia 15 1 12 13, .st 1 15 14], .o [.m 16
 1, .bk 17 .add false 16 1, .m 1 17]]), .o [.m 10 5, .bk 11 .add false 10 1, .m 5 11]]))], .o [.m 18 1, .m 4 18], .ret]
def sy_ : LF := ⟨2, 19, c15, [.tmp 4]⟩
theorem tf_ : aA_ prog Tryz.f15 sy_ := ak_
def c16 : LC :=
 .q [.o [.ki 4 0], .q [.o [.ki 5 0], .block 0 (.loop (.q [.q [.o [.m 6 5, .m 7 0, .ll 8 7, .bb 9 .lss false 6 8], .k 9 .skip (.exit 0)], .block 1 (.q [.q [.o [.m 12 0, .m 13 5, .ia 14 1 12 13, .ln 15 14, .m 16 1, .bb 17
 .neq false 15 16], .k 17 (.q [.o [.s 4 (.mov (.const (.int .i64 (-1))))], .ret]) .skip], .o [.m 18 1, .bk 19 .add false 18 1, .m 1 19]]), .o [.m 10 5, .bk 11 .add false 10 1, .m 5 11]]))], .o [.m 20 1, .m 4 20], .ret]
def xH_ : LF := ⟨2, 21, c16, [.tmp 4]⟩
theorem xX_ : aA_ prog Tryz.f16 xH_ := ak_
theorem kf_ (xs : List ByteArray) : ∀ e ∈ xs.map ax_, aM_ [.str] e := by
 intro e he
 obtain ⟨x, _, q⟩ := mem_map.1 he; subst q
 simp only [aM_, a8_, ax_]
 exact ⟨_, _, rfl, ⟨_, rfl⟩, rfl⟩
theorem jg_ (xs : List ByteArray) : aT_ (aJ_ [.str]) (xs.map ax_) ≤ 1 * (ar_ ByteArray.size) xs := by
 refine gi_ (fun x => ?_) xs
 simp only [aJ_, aV_]
 omega
theorem hw_ (xs : List ByteArray) (hb : (ar_ ByteArray.size) xs ≤ 1048576) : br_ prog 21 [.list 0 1 (xs.map ax_)] (.list 0 1 (xs.map ax_)) (fun a => ∃ l, a = .own l xs.length) := by
 have hx := Nat.le_trans (bQ_ (f := ByteArray.size) (xs := xs)) hb
 refine e6_ mixed Tryz.func21 tm_ rfl (fun h0 => ?_)
 simp (disch := omega) only [sl_, c21, go_sem, reduceCtorEq, ↓reduceIte]
 refine ⟨by omega, by omega, ?_⟩
 refine aE_ (fun n t h => ∃ k : Nat, t 0 = .list 0 1 (xs.map ax_) ∧ t 3 = .own h0.length xs.length ∧ t 4 = .val (.int .i64 k) ∧ h = h0 ++ [⟨9, 1, bM_ (xs.map ax_) [.val (.string (txt []))] k⟩] ∧ n = xs.length - k ∧ k ≤ xs.length) xs.length ?_ ?_
 ·exact ⟨0, rfl, rfl, rfl, by rw [f6_]; simp, rfl, Nat.zero_le _⟩
 ·rintro J hJ n t h ⟨k, t0, t3, t4, rfl, rfl, hk⟩
  have fl : (bM_ (xs.map ax_) [.val (.string (txt []))] k).length = xs.length := by rw [eU_ _ _ (by simpa using hk)]; simp
  by_cases hlt : k < xs.length
  ·have fg : (bM_ (xs.map ax_) [.val (.string (txt []))] k)[k]? = some [.val (.string (txt []))] := gB_ _ _ (by simpa using hlt)
   have fs := f5_ (xs.map ax_) [.val (.string (txt []))] (ax_ xs[k]) (k := k) (by rw [getElem?_map, getElem?_eq_getElem hlt]; rfl)
   simp (disch := omega) only [t0, t3, t4, hlt, fl, fg, aI_, go_sem, reduceEqDiff, reduceCtorEq, ↓reduceIte, aU_]
   try simp (disch := omega) only [fs, go_sem]
   exact ⟨xs.length - (k + 1), by omega, hJ _ _ _ ⟨k + 1, by simp [upd, t0], by simp [upd, t3], by simp [upd], by simp [], rfl, by omega⟩⟩
  ·simp (disch := omega) only [t0, t3, t4, hlt, fl, aI_, go_sem, reduceEqDiff, reduceCtorEq, ↓reduceIte]
   have ff : bM_ (xs.map ax_) [.val (.string (txt []))] k = xs.map ax_ := gz_ _ _ (by simp; omega)
   rw [ff]
   refine ⟨_, rfl, (aP_.mkown (lo := h0.length + 1) (hi := h0.length + 1) (bo_.ofVals _ _ _ _ ?_) (by rw [di_]; rfl) (by simp) (Nat.le_refl _) (Nat.lt_succ_self _) (Nat.le_refl _)).fresh, _, rfl⟩
   intro e he c hc
   obtain ⟨x, _, q⟩ := mem_map.1 he; subst q
   simp only [ax_, mem_singleton] at hc
   exact ⟨_, hc⟩
theorem hY_ : fp_ prog 24 az_ [.str] := by
 refine fp_.of ?_ ?_
 ·intro H k K hK
  refine aS_ mixed Tryz.func24 tg_ (bs_ rfl ?_)
  simp (disch := omega) only [rC_, c24, go_sem]
  refine aE_ (fun n t h => t 0 = .val (.slice none 0 0) ∧ t 1 = .val (.int .i64 k) ∧ t 5 = .val (.int .i64 0) ∧ h = H) 0 ⟨rfl, rfl, rfl, rfl⟩ ?_
  rintro J hJ n t h ⟨t0, t1, t5, rfl⟩
  simp (disch := omega) only [t0, t1, t5, go_sem, reduceEqDiff, reduceCtorEq, Int.reduceLT, ↓reduceIte]
  exact hK
 ·intro l cnt lo hi E rs0 f H0 k K hT hl nd hrl hlo hhi hsh hk hb hK
  refine aS_ mixed Tryz.func24 tg_ (bs_ rfl ?_)
  obtain ⟨seg, hseg⟩ : ∃ seg, seg = (rs0.take hi).drop lo := ⟨_, rfl⟩
  rw [← hseg] at hsh hb hK
  have hsl : hi - lo = seg.length := by rw [hseg, length_drop, length_take]; omega
  have hsn : seg.length ≤ aT_ (aJ_ [.str]) seg := eC_ (c := aJ_ [.str]) (fun e he => by have q := hsh e he; unfold aM_ at q; obtain ⟨c, r, rfl, _, _⟩ := q; simp only [aJ_, aV_]; omega)
  simp (disch := omega) only [rC_, c24, go_sem]
  refine aE_ (fun n t h => ∃ (i : Nat) (rs : List (List AV)), t 0 = .sub l cnt lo hi ∧ t 1 = .val (.int .i64 (aC_ (aZ_ az_ [.str]) (seg.take i) k).2) ∧ t 5 = .val (.int .i64 i) ∧ MT H0 l E 1 cnt f rs h ∧ n = seg.length - i ∧ i ≤ seg.length ∧ rs.length = cnt ∧ (rs.take hi).drop lo = (aC_ (aZ_ az_ [.str]) (seg.take i) k).1 ++ seg.drop i) seg.length ⟨0, rs0, rfl, rfl, rfl, hT, rfl, Nat.zero_le _, hrl, hseg.symm⟩ ?_
  rintro J hJ n t h ⟨i, rs, t0, t1, t5, hM, rfl, hi1, hrl1, hS⟩
  by_cases hlt : i < seg.length
  ·have hA : (aC_ (aZ_ az_ [.str]) (seg.take i) k).1.length = i := by rw [fy_, length_take]; omega
   have hst := iU_ (g := (aZ_ az_ [.str])) (k := k) hlt
   have hcn := g5_ (c := aJ_ [.str]) hlt
   have hzz : (aC_ (aZ_ az_ [.str]) (seg.take i) k).2 = k + aT_ (aJ_ [.str]) (seg.take i) := cy_ (fun x _ k => cj_ [.str] x k) k
   have hj4 : (lo : Int) + (i : Int) < (hi : Int) := by omega
   have hj2 := (jK_ hS hA hlt).2.1
   have hsd := hsh _ (getElem_mem hlt)
   have hss : ∀ d, ((rs.set (lo + i) d).take hi).drop lo = ((aC_ (aZ_ az_ [.str]) (seg.take i) k).1 ++ [d]) ++ seg.drop (i + 1) := fun d => in_ hS hA hlt
   clear hS hA
   generalize seg[i] = d at hst hcn hj2 hsd
   obtain ⟨z, hz⟩ : ∃ z, z = (aC_ (aZ_ az_ [.str]) (seg.take i) k).2 := ⟨_, rfl⟩
   rw [← hz] at hst hzz t1
   have hz0 : 0 ≤ z := by omega
   unfold aM_ at hsd
   obtain ⟨_, d0, hd0, hc0, hsd⟩ := hsd
   unfold a8_ at hc0
   obtain ⟨s0, rfl⟩ := hc0
   unfold aM_ at hsd
   subst hsd
   subst hd0
   simp only [aJ_, aV_, Nat.add_zero] at hcn
   obtain ⟨m, es, e, f2, r1, r2, r3, ho_0, nd2, hl2, hfin⟩ := hM.elem hl nd hj2
   obtain ⟨q0, rfl, ho_1⟩ := ho_0.inv_val
   obtain ⟨rfl, rfl⟩ := ho_1.inv_nil
   have u1 : ∀ r, (h.set l r)[l]? = some r := fun r => getElem?_set_self (List.getElem?_eq_some_iff.1 r1).1
   have u2 : ∀ x, (es.set (lo + i) x)[lo + i]? = some x := fun x => getElem?_set_self (List.getElem?_eq_some_iff.1 r3).1
   simp (disch := omega) only [t0, t1, t5, hlt, hsl, hlo, r1, r2, go_sem, reduceEqDiff, reduceCtorEq, ↓reduceIte]
   refine aa_.call (d2_ (z) (by omega) (by omega) _) ?_
   simp (disch := omega) only [t1, t5, hj4, r1, r2, r3, go_sem, reduceEqDiff, ↓reduceIte]
   refine ⟨seg.length - (i + 1), by omega, hJ _ _ _ ⟨i + 1, rs.set (lo + i) _, by simp [upd, t0], by rw [hst]; simp [upd, aZ_, a9_], by simp [upd], hfin _ _ _ ?_ (by first | exact u1 _ | exact u1 _) ?_ ?_, rfl, by omega, by simpa using hrl1, by rw [hst]; exact hss _⟩⟩
   ·simp only [ls_]
   ·intro x hx
    simp only [mem_cons, not_or] at hx
    try rw [getElem?_set_ne (Ne.symm hx.1)]
   ·simp only [aZ_, a9_]
    exact ⟨_, (au_.mk_val _ (au_.mk_nil (Own _ (0 + 1))))⟩
  ·obtain ⟨m, es, r1, r2, _⟩ := hM.out
   have e1 : seg.take i = seg := take_of_length_le (by omega)
   have e2 : seg.drop i = [] := drop_eq_nil_of_le (by omega)
   rw [e1] at t1 hS
   rw [e2, append_nil] at hS
   simp (disch := omega) only [t0, t1, t5, hlt, hsl, hlo, r1, r2, go_sem, reduceEqDiff, reduceCtorEq, ↓reduceIte]
   exact hK _ rs hM hS
theorem ib_ (es : List (List AV)) (k : Int) (hsh : ∀ e ∈ es, aM_ [.str] e) (hk : 0 ≤ k) (hb : k + aT_ (aJ_ [.str]) es ≤ 4611686018427387904) (h : List Row) : aa_ prog 104 [.list 0 1 es, .val (.int .i64 k)] h (.val (.int .i64 (by_ (bv_ az_ [.str]) es k))) := by
 refine ap_ mixed Tryz.func104 w2_ rfl rfl ?_ h
 have hsn : es.length ≤ aT_ (aJ_ [.str]) es := eC_ (c := aJ_ [.str]) (fun e he => by have q := hsh e he; unfold aM_ at q; obtain ⟨c, r, rfl, _, _⟩ := q; simp only [aJ_, aV_]; omega)
 simp (disch := omega) only [s8_, wB_, go_sem, Int.reduceNeg]
 refine aE_ (fun n t h => ∃ (i : Nat) (z : Int), t 0 = .list 0 1 es ∧ t 1 = .val (.int .i64 z) ∧ t 5 = .val (.int .i64 i) ∧ n = es.length - i ∧ i ≤ es.length ∧ 0 ≤ z ∧ z + aT_ (aJ_ [.str]) (es.drop i) ≤ 4611686018427387904 ∧ by_ (bv_ az_ [.str]) es k = by_ (bv_ az_ [.str]) (es.drop i) z) es.length ⟨0, k, rfl, rfl, rfl, rfl, Nat.zero_le _, hk, hb, rfl⟩ ?_
 rintro J hJ n t h ⟨i, z, t0, t1, t5, rfl, hi, hz0, hzb, hS⟩
 by_cases hlt : i < es.length
 ·rw [ik_ hlt] at hS
  rw [lj_ hlt] at hzb
  have hsd := hsh _ (getElem_mem hlt)
  obtain ⟨d, hd⟩ : ∃ d, es[i] = d := ⟨_, rfl⟩
  rw [hd] at hS hzb hsd
  have hg : es[i]? = some d := by rw [getElem?_eq_getElem hlt, hd]
  unfold aM_ at hsd
  obtain ⟨_, d0, hd0, hc0, hsd⟩ := hsd
  unfold a8_ at hc0
  obtain ⟨s0, rfl⟩ := hc0
  unfold aM_ at hsd
  subst hsd
  subst hd0
  simp only [aJ_, aV_, Nat.add_zero] at hzb
  simp (disch := omega) only [t0, t1, t5, hlt, hg, go_sem, reduceEqDiff, reduceCtorEq, Int.reduceNeg, ↓reduceIte]
  refine aa_.q (d2_ (z) (by omega) (by omega) _) ?_
  by_cases q0 : s0 = az_ (z)
  case neg =>
   simp (disch := omega) only [q0, go_sem, Int.reduceNeg, ↓reduceIte]
   exact an_ (by rw [hS]; exact (cN_ (by simp (disch := first | assumption | omega) only [jH_])).symm)
  simp (disch := omega) only [t1, t5, q0, go_sem, reduceEqDiff, Int.reduceNeg, ↓reduceIte]
  exact ⟨es.length - (i + 1), by omega, hJ _ _ _ ⟨i + 1, z + 1, by simp [upd, t0], by simp [upd], by simp [upd], rfl, by omega, by omega, by omega, by rw [hS]; exact gf_ (by simp (disch := first | assumption | omega) only [g6_, iD_]) (by omega)⟩⟩
 ·simp (disch := omega) only [t0, t1, t5, hlt, go_sem, reduceEqDiff, reduceCtorEq, Int.reduceNeg, ↓reduceIte]
  exact an_ (by rw [hS, drop_eq_nil_of_le (by omega)]; rfl)
theorem rR_ (x : ac_) : aM_ [.int, .int, .str, .list [.str]] (ac_.cells x) := by
 simp only [ac_.cells, aM_, a8_]
 exact ⟨_, _, rfl, ⟨_, rfl⟩, ⟨_, _, rfl, ⟨_, rfl⟩, ⟨_, _, rfl, ⟨_, rfl⟩, ⟨_, _, rfl, ⟨_, rfl, kf_ _⟩, rfl⟩⟩⟩⟩
theorem nw_ (x : ac_) (hb : ac_.sz x ≤ 1048576) : br_ prog 75 [.agg (ac_.cells x)] (.agg (ac_.cells x)) (fun a => ∃ l_Subs, a = .agg [.val (.int .i64 x.Job), .val (.int .i64 x.Count), .val (.string x.Name), .own l_Subs (x.Subs).length]) := by
 have hsz : ac_.sz x = ByteArray.size x.Name + (ar_ ByteArray.size) x.Subs := rfl
 refine e6_ mixed Tryz.func75 te_ rfl (fun h0 => ?_)
 simp (disch := omega) only [sR_, c75, ac_.cells, go_sem, reduceEqDiff, Nat.reduceAdd, reduceLeDiff, ↓reduceIte]
 refine hw_ x.Subs (by omega) _ _ (fun av1 hn1 hf1 hq1 => ?_)
 obtain ⟨l_Subs, rfl⟩ := hq1
 simp (disch := omega) only [go_sem, reduceEqDiff, Nat.reduceAdd, ↓reduceIte, c2_]
 exact ⟨_, rfl, jP_ (aH_.val _ (aH_.val _ (aH_.val _ (aH_.cons ((hf1.b.keep fun l q1 q2 => qh_ (t := []) (by simp) q1 q2).widen (by first | omega | (simp; done) | (simp; omega)) (Nat.le_refl _)) (aH_.nil _ _ _) ⟨(by first | omega | (simp; done) | (simp; omega)), (by first | omega | (simp; done) | (simp; omega))⟩)))), l_Subs, rfl⟩
theorem rg_ (xs : List ac_) : ∀ e ∈ xs.map ac_.cells, aM_ [.int, .int, .str, .list [.str]] e := by
 intro e he
 obtain ⟨x, _, q⟩ := mem_map.1 he; subst q
 exact rR_ x
theorem pL_ (xs : List ac_) : aT_ (aJ_ [.int, .int, .str, .list [.str]]) (xs.map ac_.cells) ≤ 4 * (ar_ ac_.sz) xs := by
 refine gi_ (fun x => ?_) xs
 have c0 := jg_ (x.Subs)
 have hsz0 : ∀ y : ac_, ac_.sz y = ByteArray.size y.Name + (ar_ ByteArray.size) y.Subs := fun _ => rfl
 simp only [hsz0] at *
 simp only [ac_.cells, aJ_, aV_]
 omega
theorem m4_ (xs : List ac_) (hb : (ar_ ac_.sz) xs ≤ 1048576) : br_ prog 34 [.list 0 4 (xs.map ac_.cells)] (.list 0 4 (xs.map ac_.cells)) (fun a => ∃ l, a = .own l xs.length) := by
 have hx := Nat.le_trans (bQ_ (f := ac_.sz) (xs := xs)) hb
 refine e6_ mixed Tryz.func34 tZ_ rfl (fun h0 => ?_)
 simp (disch := omega) only [sU_, c34, go_sem, reduceCtorEq, ↓reduceIte]
 refine ⟨by omega, by omega, ?_⟩
 refine aE_ (fun n t h => ∃ (k : Nat) (done : List (List AV)) (rest : List Row), t 0 = .list 0 4 (xs.map ac_.cells) ∧ t 3 = .own h0.length xs.length ∧ t 4 = .val (.int .i64 k) ∧ h = h0 ++ ⟨74, 4, done ++ List.replicate (xs.length - k) ([.val (.int .i64 0), .val (.int .i64 0), .val (.string (txt [])), .val (.slice none 0 0)] : List AV)⟩ :: rest ∧ n = xs.length - k ∧ k ≤ xs.length ∧ done.length = k ∧ bo_ (h0.length + 1) h.length h done ((xs.take k).map ac_.cells)) xs.length ?_ ?_
 ·exact ⟨0, [], [], rfl, rfl, rfl, by simp, rfl, Nat.zero_le _, rfl, .nil _ _ _⟩
 ·rintro J hJ n t h ⟨k, done, rest, t0, t3, t4, rfl, rfl, hk, hd, hF⟩
  have fl : (done ++ List.replicate (xs.length - k) ([.val (.int .i64 0), .val (.int .i64 0), .val (.string (txt [])), .val (.slice none 0 0)] : List AV)).length = xs.length := by simp; omega
  by_cases hlt : k < xs.length
  ·have e1 : xs.length - k = (xs.length - (k + 1)) + 1 := by omega
   have fg : (done ++ List.replicate (xs.length - k) ([.val (.int .i64 0), .val (.int .i64 0), .val (.string (txt [])), .val (.slice none 0 0)] : List AV))[k]? = some [.val (.int .i64 0), .val (.int .i64 0), .val (.string (txt [])), .val (.slice none 0 0)] := by rw [getElem?_append_right (by omega), hd, Nat.sub_self, e1]; rfl
   have fs : ∀ c : List AV, (done ++ List.replicate (xs.length - k) ([.val (.int .i64 0), .val (.int .i64 0), .val (.string (txt [])), .val (.slice none 0 0)] : List AV)).set k c = (done ++ [c]) ++ List.replicate (xs.length - (k + 1)) ([.val (.int .i64 0), .val (.int .i64 0), .val (.string (txt [])), .val (.slice none 0 0)] : List AV) := by
    intro c; rw [set_append_right _ _ (by omega), hd, Nat.sub_self, e1, replicate_succ, set_cons_zero, append_assoc]; rfl
   simp (disch := omega) only [t0, t3, t4, hlt, ac_.cells, aI_, go_sem, reduceEqDiff, Nat.reduceAdd, reduceCtorEq, ↓reduceIte]
   refine nw_ xs[k] (by have := dq_ (f := ac_.sz) (getElem_mem hlt); omega) _ _ (fun av hn hf hq => ?_)
   obtain ⟨l_Subs, rfl⟩ := hq
   simp (disch := omega) only [t4, hlt, fl, fg, fs, go_sem, reduceEqDiff, Nat.reduceAdd, ↓reduceIte, aU_]
   refine ⟨xs.length - (k + 1), by omega, hJ _ _ _ ⟨k + 1, done ++ [[.val (.int .i64 xs[k].Job), .val (.int .i64 xs[k].Count), .val (.string xs[k].Name), .own l_Subs (xs[k].Subs).length]], rest ++ hn, by simp [upd, t0], by simp [upd, t3], by simp [upd], by simp, rfl, by omega, by simp [hd], ?_⟩⟩
   rw [take_succ_eq_append_getElem hlt, map_append]
   have hz := ki_ (r' := ⟨74, 4, (done ++ [[.val (.int .i64 xs[k].Job), .val (.int .i64 xs[k].Count), .val (.string xs[k].Name), .own l_Subs (xs[k].Subs).length]]) ++ List.replicate (xs.length - (k + 1)) ([.val (.int .i64 0), .val (.int .i64 0), .val (.string (txt [])), .val (.slice none 0 0)] : List AV)⟩) hF hf
   first | exact hz | simpa using hz
  ·simp (disch := omega) only [t0, t3, t4, hlt, aI_, go_sem, reduceEqDiff, reduceCtorEq, ↓reduceIte]
   have e1 : xs.length - k = 0 := by omega
   rw [e1, replicate_zero, append_nil, take_of_length_le (by omega)] at hF
   rw [e1, replicate_zero, append_nil]
   exact ⟨_, rfl, kY_ hF (by omega), _, rfl⟩
theorem nI_ : fp_ prog 41 az_ [.int, .int, .str, .list [.str]] := by
 refine fp_.of ?_ ?_
 ·intro H k K hK
  refine aS_ mixed Tryz.func41 tD_ (bs_ rfl ?_)
  simp (disch := omega) only [sj_, c41, go_sem]
  refine aE_ (fun n t h => t 0 = .val (.slice none 0 0) ∧ t 1 = .val (.int .i64 k) ∧ t 5 = .val (.int .i64 0) ∧ h = H) 0 ⟨rfl, rfl, rfl, rfl⟩ ?_
  rintro J hJ n t h ⟨t0, t1, t5, rfl⟩
  simp (disch := omega) only [t0, t1, t5, go_sem, reduceEqDiff, reduceCtorEq, Int.reduceLT, ↓reduceIte]
  exact hK
 ·intro l cnt lo hi E rs0 f H0 k K hT hl nd hrl hlo hhi hsh hk hb hK
  refine aS_ mixed Tryz.func41 tD_ (bs_ rfl ?_)
  obtain ⟨seg, hseg⟩ : ∃ seg, seg = (rs0.take hi).drop lo := ⟨_, rfl⟩
  rw [← hseg] at hsh hb hK
  have hsl : hi - lo = seg.length := by rw [hseg, length_drop, length_take]; omega
  have hsn : seg.length ≤ aT_ (aJ_ [.int, .int, .str, .list [.str]]) seg := eC_ (c := aJ_ [.int, .int, .str, .list [.str]]) (fun e he => by have q := hsh e he; unfold aM_ at q; obtain ⟨c, r, rfl, _, _⟩ := q; simp only [aJ_, aV_]; omega)
  simp (disch := omega) only [sj_, c41, go_sem]
  refine aE_ (fun n t h => ∃ (i : Nat) (rs : List (List AV)), t 0 = .sub l cnt lo hi ∧ t 1 = .val (.int .i64 (aC_ (aZ_ az_ [.int, .int, .str, .list [.str]]) (seg.take i) k).2) ∧ t 5 = .val (.int .i64 i) ∧ MT H0 l E 4 cnt f rs h ∧ n = seg.length - i ∧ i ≤ seg.length ∧ rs.length = cnt ∧ (rs.take hi).drop lo = (aC_ (aZ_ az_ [.int, .int, .str, .list [.str]]) (seg.take i) k).1 ++ seg.drop i) seg.length ⟨0, rs0, rfl, rfl, rfl, hT, rfl, Nat.zero_le _, hrl, hseg.symm⟩ ?_
  rintro J hJ n t h ⟨i, rs, t0, t1, t5, hM, rfl, hi1, hrl1, hS⟩
  by_cases hlt : i < seg.length
  ·have hA : (aC_ (aZ_ az_ [.int, .int, .str, .list [.str]]) (seg.take i) k).1.length = i := by rw [fy_, length_take]; omega
   have hst := iU_ (g := (aZ_ az_ [.int, .int, .str, .list [.str]])) (k := k) hlt
   have hcn := g5_ (c := aJ_ [.int, .int, .str, .list [.str]]) hlt
   have hzz : (aC_ (aZ_ az_ [.int, .int, .str, .list [.str]]) (seg.take i) k).2 = k + aT_ (aJ_ [.int, .int, .str, .list [.str]]) (seg.take i) := cy_ (fun x _ k => cj_ [.int, .int, .str, .list [.str]] x k) k
   have hj4 : (lo : Int) + (i : Int) < (hi : Int) := by omega
   have hj2 := (jK_ hS hA hlt).2.1
   have hsd := hsh _ (getElem_mem hlt)
   have hss : ∀ d, ((rs.set (lo + i) d).take hi).drop lo = ((aC_ (aZ_ az_ [.int, .int, .str, .list [.str]]) (seg.take i) k).1 ++ [d]) ++ seg.drop (i + 1) := fun d => in_ hS hA hlt
   clear hS hA
   generalize seg[i] = d at hst hcn hj2 hsd
   obtain ⟨z, hz⟩ : ∃ z, z = (aC_ (aZ_ az_ [.int, .int, .str, .list [.str]]) (seg.take i) k).2 := ⟨_, rfl⟩
   rw [← hz] at hst hzz t1
   have hz0 : 0 ≤ z := by omega
   unfold aM_ at hsd
   obtain ⟨_, d0, hd0, hc0, hsd⟩ := hsd
   unfold a8_ at hc0
   obtain ⟨n0, rfl⟩ := hc0
   unfold aM_ at hsd
   obtain ⟨_, d1, hd1, hc1, hsd⟩ := hsd
   unfold a8_ at hc1
   obtain ⟨n1, rfl⟩ := hc1
   unfold aM_ at hsd
   obtain ⟨_, d2, hd2, hc2, hsd⟩ := hsd
   unfold a8_ at hc2
   obtain ⟨s2, rfl⟩ := hc2
   unfold aM_ at hsd
   obtain ⟨_, d3, hd3, hc3, hsd⟩ := hsd
   unfold a8_ at hc3
   obtain ⟨e3, rfl, hc3⟩ := hc3
   unfold aM_ at hsd
   subst hsd
   subst hd3
   subst hd2
   subst hd1
   subst hd0
   simp only [aJ_, aV_, Nat.add_zero] at hcn
   obtain ⟨m, es, e, f2, r1, r2, r3, ho_0, nd2, hl2, hfin⟩ := hM.elem hl nd hj2
   obtain ⟨q0, rfl, ho_1⟩ := ho_0.inv_val
   obtain ⟨q1, rfl, ho_2⟩ := ho_1.inv_val
   obtain ⟨q2, rfl, ho_3⟩ := ho_2.inv_val
   obtain ⟨c3, q3, g3, w3, rfl, rfl, hw3, ho_4⟩ := ho_3.inv_cons
   obtain ⟨rfl, rfl⟩ := ho_4.inv_nil
   simp only [append_nil] at nd2 hl2
   have nd_3 : g3.Nodup := by first | exact nd2 | exact nd2.1 | exact nd2.2.1 | (simp_all; done)
   have hl_3 : l ∉ g3 := fun q => hl2 (by simp [q])
   have u1 : ∀ r, (h.set l r)[l]? = some r := fun r => getElem?_set_self (List.getElem?_eq_some_iff.1 r1).1
   have u2 : ∀ x, (es.set (lo + i) x)[lo + i]? = some x := fun x => getElem?_set_self (List.getElem?_eq_some_iff.1 r3).1
   simp (disch := omega) only [t0, t1, t5, hlt, hsl, hj4, hlo, r1, r2, r3, u1, u2, ls_, set_set, go_sem, reduceEqDiff, Nat.reduceAdd, reduceLeDiff, reduceCtorEq, ↓reduceIte]
   refine aa_.call (d2_ (z + 1 + 1) (by omega) (by omega) _) ?_
   simp (disch := omega) only [t0, t5, hj4, r2, u1, u2, ls_, set_set, go_sem, reduceEqDiff, Nat.reduceAdd, reduceLeDiff, reduceCtorEq, ↓reduceIte]
   refine hY_ _ c3 e3 g3 _ (z + 1 + 1 + 1) _ (hw3.keep fun x hx => ?_) nd_3 hc3 (by omega) (by omega) (fun H1 m1 x1 y1 v1 => ?_)
   ·first | rfl | exact getElem?_set_ne (by rintro rfl; exact hl_3 hx)
   have hq3 : (aC_ (aZ_ az_ [.str]) e3 (z + 1 + 1 + 1)).2 = z + 1 + 1 + 1 + (aT_ (aJ_ [.str]) e3 : Nat) := cy_ (fun x _ k => cj_ _ x k) _
   have p1 := (y1 l hl_3).trans (by first | exact u1 _ | exact r1)
   have un1 : ∀ r, (H1.set l r)[l]? = some r := fun r => getElem?_set_self (List.getElem?_eq_some_iff.1 p1).1
   simp (disch := omega) only [t5, go_sem, reduceEqDiff, ↓reduceIte]
   refine ⟨seg.length - (i + 1), by omega, hJ _ _ _ ⟨i + 1, rs.set (lo + i) _, by simp [upd, t0], by rw [hst]; simp [upd, aZ_, a9_], by simp [upd], hfin _ _ _ ?_ (by first | exact un1 _ | exact p1) ?_ ?_, rfl, by omega, by simpa using hrl1, by rw [hst]; exact hss _⟩⟩
   ·simp only [ls_, x1]
   ·intro x hx
    simp only [mem_cons, not_or, append_nil] at hx
    try rw [getElem?_set_ne (Ne.symm hx.1)]
    rw [y1 x (by intro hq; first | (simp_all; done) | exact nd.2.2 _ hq _ hx rfl | exact nd.2.2 _ hx _ hq rfl | grind)]
    try rw [getElem?_set_ne (Ne.symm hx.1)]
   ·simp only [aZ_, a9_]
    exact ⟨_, (au_.mk_val _ (au_.mk_val _ (au_.mk_val _ (au_.mk_list (v1.keep fun x hx => by first | rfl | ((try rw [getElem?_set_ne (by rintro rfl; exact hl_3 hx)]))) (au_.mk_nil (Own _ (0 + 1)))))))⟩
  ·obtain ⟨m, es, r1, r2, _⟩ := hM.out
   have e1 : seg.take i = seg := take_of_length_le (by omega)
   have e2 : seg.drop i = [] := drop_eq_nil_of_le (by omega)
   rw [e1] at t1 hS
   rw [e2, append_nil] at hS
   simp (disch := omega) only [t0, t1, t5, hlt, hsl, hlo, r1, r2, go_sem, reduceEqDiff, reduceCtorEq, ↓reduceIte]
   exact hK _ rs hM hS
theorem nF_ (es : List (List AV)) (k : Int) (hsh : ∀ e ∈ es, aM_ [.int, .int, .str, .list [.str]] e) (hk : 0 ≤ k) (hb : k + aT_ (aJ_ [.int, .int, .str, .list [.str]]) es ≤ 4611686018427387904) (h : List Row) : aa_ prog 62 [.list 0 4 es, .val (.int .i64 k)] h (.val (.int .i64 (by_ (bv_ az_ [.int, .int, .str, .list [.str]]) es k))) := by
 refine ap_ mixed Tryz.func62 yj_ rfl rfl ?_ h
 have hsn : es.length ≤ aT_ (aJ_ [.int, .int, .str, .list [.str]]) es := eC_ (c := aJ_ [.int, .int, .str, .list [.str]]) (fun e he => by have q := hsh e he; unfold aM_ at q; obtain ⟨c, r, rfl, _, _⟩ := q; simp only [aJ_, aV_]; omega)
 simp (disch := omega) only [w7_, c62, go_sem, Int.reduceNeg]
 refine aE_ (fun n t h => ∃ (i : Nat) (z : Int), t 0 = .list 0 4 es ∧ t 1 = .val (.int .i64 z) ∧ t 5 = .val (.int .i64 i) ∧ n = es.length - i ∧ i ≤ es.length ∧ 0 ≤ z ∧ z + aT_ (aJ_ [.int, .int, .str, .list [.str]]) (es.drop i) ≤ 4611686018427387904 ∧ by_ (bv_ az_ [.int, .int, .str, .list [.str]]) es k = by_ (bv_ az_ [.int, .int, .str, .list [.str]]) (es.drop i) z) es.length ⟨0, k, rfl, rfl, rfl, rfl, Nat.zero_le _, hk, hb, rfl⟩ ?_
 rintro J hJ n t h ⟨i, z, t0, t1, t5, rfl, hi, hz0, hzb, hS⟩
 by_cases hlt : i < es.length
 ·rw [ik_ hlt] at hS
  rw [lj_ hlt] at hzb
  have hsd := hsh _ (getElem_mem hlt)
  obtain ⟨d, hd⟩ : ∃ d, es[i] = d := ⟨_, rfl⟩
  rw [hd] at hS hzb hsd
  have hg : es[i]? = some d := by rw [getElem?_eq_getElem hlt, hd]
  unfold aM_ at hsd
  obtain ⟨_, d0, hd0, hc0, hsd⟩ := hsd
  unfold a8_ at hc0
  obtain ⟨n0, rfl⟩ := hc0
  unfold aM_ at hsd
  obtain ⟨_, d1, hd1, hc1, hsd⟩ := hsd
  unfold a8_ at hc1
  obtain ⟨n1, rfl⟩ := hc1
  unfold aM_ at hsd
  obtain ⟨_, d2, hd2, hc2, hsd⟩ := hsd
  unfold a8_ at hc2
  obtain ⟨s2, rfl⟩ := hc2
  unfold aM_ at hsd
  obtain ⟨_, d3, hd3, hc3, hsd⟩ := hsd
  unfold a8_ at hc3
  obtain ⟨e3, rfl, hc3⟩ := hc3
  unfold aM_ at hsd
  subst hsd
  subst hd3
  subst hd2
  subst hd1
  subst hd0
  simp only [aJ_, aV_, Nat.add_zero] at hzb
  simp (disch := omega) only [t0, t1, t5, hlt, hg, go_sem, reduceEqDiff, Nat.reduceAdd, reduceCtorEq, Int.reduceNeg, ↓reduceIte]
  by_cases q0 : n0 = z
  case neg =>
   simp (disch := omega) only [q0, go_sem, Int.reduceNeg, ↓reduceIte]
   exact an_ (by rw [hS]; exact (cN_ (by simp (disch := first | assumption | omega) only [go_])).symm)
  simp (disch := omega) only [t0, t1, t5, hg, q0, go_sem, reduceEqDiff, Nat.reduceAdd, reduceLeDiff, reduceCtorEq, Int.reduceNeg, ↓reduceIte]
  by_cases q1 : n1 = z + 1
  case neg =>
   simp (disch := omega) only [q1, go_sem, Int.reduceNeg, ↓reduceIte]
   exact an_ (by rw [hS]; exact (cN_ (by simp (disch := first | assumption | omega) only [dS_, go_])).symm)
  simp (disch := omega) only [t0, t5, hg, q1, go_sem, reduceEqDiff, Nat.reduceAdd, reduceLeDiff, reduceCtorEq, Int.reduceNeg, ↓reduceIte]
  refine aa_.q (d2_ (z + 1 + 1) (by omega) (by omega) _) ?_
  by_cases q2 : s2 = az_ (z + 1 + 1)
  case neg =>
   simp (disch := omega) only [q2, go_sem, Int.reduceNeg, ↓reduceIte]
   exact an_ (by rw [hS]; exact (cN_ (by simp (disch := first | assumption | omega) only [dS_, jH_])).symm)
  simp (disch := omega) only [t0, t5, hg, q2, go_sem, reduceEqDiff, Nat.reduceAdd, reduceLeDiff, reduceCtorEq, Int.reduceNeg, ↓reduceIte]
  refine aa_.call (ib_ e3 (z + 1 + 1 + 1) hc3 (by omega) (by omega) _) ?_
  have hq3 := gW_ (c := aJ_ [.str]) (fun e he k hk => gQ_ (mt := az_) [.str] e k (hc3 e he) hk) (z + 1 + 1 + 1) (by omega)
  by_cases q3 : (by_ (bv_ az_ [.str]) e3 (z + 1 + 1 + 1)) < 0
  ·simp (disch := omega) only [q3, go_sem, Int.reduceNeg, ↓reduceIte]
   exact an_ (by rw [hS]; exact (cN_ (by simp (disch := first | assumption | omega) only [dS_, g6_, lO_])).symm)
  simp (disch := omega) only [t5, q3, go_sem, reduceEqDiff, Int.reduceNeg, ↓reduceIte]
  exact ⟨es.length - (i + 1), by omega, hJ _ _ _ ⟨i + 1, (by_ (bv_ az_ [.str]) e3 (z + 1 + 1 + 1)), by simp [upd, t0], by simp [upd], by simp [upd], rfl, by omega, by omega, by omega, by rw [hS]; exact gf_ (by simp (disch := first | assumption | omega) only [dS_, g6_, mz_, iD_]) (by omega)⟩⟩
 ·simp (disch := omega) only [t0, t1, t5, hlt, go_sem, reduceEqDiff, reduceCtorEq, Int.reduceNeg, ↓reduceIte]
  exact an_ (by rw [hS, drop_eq_nil_of_le (by omega)]; rfl)
theorem uH_ (x : ae_) : aM_ [.int, .int, .str, .list [.str]] (ae_.cells x) := by
 simp only [ae_.cells, aM_, a8_]
 exact ⟨_, _, rfl, ⟨_, rfl⟩, ⟨_, _, rfl, ⟨_, rfl⟩, ⟨_, _, rfl, ⟨_, rfl⟩, ⟨_, _, rfl, ⟨_, rfl, kf_ _⟩, rfl⟩⟩⟩⟩
theorem oU_ (x : ae_) (hb : ae_.sz x ≤ 1048576) : br_ prog 76 [.agg (ae_.cells x)] (.agg (ae_.cells x)) (fun a => ∃ l_Subs, a = .agg [.val (.int .i64 x.Job), .val (.int .i64 x.Until), .val (.string x.Name), .own l_Subs (x.Subs).length]) := by
 have hsz : ae_.sz x = ByteArray.size x.Name + (ar_ ByteArray.size) x.Subs := rfl
 refine e6_ mixed Tryz.func76 tv_ rfl (fun h0 => ?_)
 simp (disch := omega) only [sC_, c76, ae_.cells, go_sem, reduceEqDiff, Nat.reduceAdd, reduceLeDiff, ↓reduceIte]
 refine hw_ x.Subs (by omega) _ _ (fun av1 hn1 hf1 hq1 => ?_)
 obtain ⟨l_Subs, rfl⟩ := hq1
 simp (disch := omega) only [go_sem, reduceEqDiff, Nat.reduceAdd, ↓reduceIte, c2_]
 exact ⟨_, rfl, jP_ (aH_.val _ (aH_.val _ (aH_.val _ (aH_.cons ((hf1.b.keep fun l q1 q2 => qh_ (t := []) (by simp) q1 q2).widen (by first | omega | (simp; done) | (simp; omega)) (Nat.le_refl _)) (aH_.nil _ _ _) ⟨(by first | omega | (simp; done) | (simp; omega)), (by first | omega | (simp; done) | (simp; omega))⟩)))), l_Subs, rfl⟩
theorem rx_ (xs : List ae_) : ∀ e ∈ xs.map ae_.cells, aM_ [.int, .int, .str, .list [.str]] e := by
 intro e he
 obtain ⟨x, _, q⟩ := mem_map.1 he; subst q
 exact uH_ x
theorem ro_ (xs : List ae_) : aT_ (aJ_ [.int, .int, .str, .list [.str]]) (xs.map ae_.cells) ≤ 4 * (ar_ ae_.sz) xs := by
 refine gi_ (fun x => ?_) xs
 have c0 := jg_ (x.Subs)
 have hsz0 : ∀ y : ae_, ae_.sz y = ByteArray.size y.Name + (ar_ ByteArray.size) y.Subs := fun _ => rfl
 simp only [hsz0] at *
 simp only [ae_.cells, aJ_, aV_]
 omega
theorem nW_ (xs : List ae_) (hb : (ar_ ae_.sz) xs ≤ 1048576) : br_ prog 35 [.list 0 4 (xs.map ae_.cells)] (.list 0 4 (xs.map ae_.cells)) (fun a => ∃ l, a = .own l xs.length) := by
 have hx := Nat.le_trans (bQ_ (f := ae_.sz) (xs := xs)) hb
 refine e6_ mixed Tryz.func35 tU_ rfl (fun h0 => ?_)
 simp (disch := omega) only [sc_, c35, go_sem, reduceCtorEq, ↓reduceIte]
 refine ⟨by omega, by omega, ?_⟩
 refine aE_ (fun n t h => ∃ (k : Nat) (done : List (List AV)) (rest : List Row), t 0 = .list 0 4 (xs.map ae_.cells) ∧ t 3 = .own h0.length xs.length ∧ t 4 = .val (.int .i64 k) ∧ h = h0 ++ ⟨64, 4, done ++ List.replicate (xs.length - k) ([.val (.int .i64 0), .val (.int .i64 0), .val (.string (txt [])), .val (.slice none 0 0)] : List AV)⟩ :: rest ∧ n = xs.length - k ∧ k ≤ xs.length ∧ done.length = k ∧ bo_ (h0.length + 1) h.length h done ((xs.take k).map ae_.cells)) xs.length ?_ ?_
 ·exact ⟨0, [], [], rfl, rfl, rfl, by simp, rfl, Nat.zero_le _, rfl, .nil _ _ _⟩
 ·rintro J hJ n t h ⟨k, done, rest, t0, t3, t4, rfl, rfl, hk, hd, hF⟩
  have fl : (done ++ List.replicate (xs.length - k) ([.val (.int .i64 0), .val (.int .i64 0), .val (.string (txt [])), .val (.slice none 0 0)] : List AV)).length = xs.length := by simp; omega
  by_cases hlt : k < xs.length
  ·have e1 : xs.length - k = (xs.length - (k + 1)) + 1 := by omega
   have fg : (done ++ List.replicate (xs.length - k) ([.val (.int .i64 0), .val (.int .i64 0), .val (.string (txt [])), .val (.slice none 0 0)] : List AV))[k]? = some [.val (.int .i64 0), .val (.int .i64 0), .val (.string (txt [])), .val (.slice none 0 0)] := by rw [getElem?_append_right (by omega), hd, Nat.sub_self, e1]; rfl
   have fs : ∀ c : List AV, (done ++ List.replicate (xs.length - k) ([.val (.int .i64 0), .val (.int .i64 0), .val (.string (txt [])), .val (.slice none 0 0)] : List AV)).set k c = (done ++ [c]) ++ List.replicate (xs.length - (k + 1)) ([.val (.int .i64 0), .val (.int .i64 0), .val (.string (txt [])), .val (.slice none 0 0)] : List AV) := by
    intro c; rw [set_append_right _ _ (by omega), hd, Nat.sub_self, e1, replicate_succ, set_cons_zero, append_assoc]; rfl
   simp (disch := omega) only [t0, t3, t4, hlt, ae_.cells, aI_, go_sem, reduceEqDiff, Nat.reduceAdd, reduceCtorEq, ↓reduceIte]
   refine oU_ xs[k] (by have := dq_ (f := ae_.sz) (getElem_mem hlt); omega) _ _ (fun av hn hf hq => ?_)
   obtain ⟨l_Subs, rfl⟩ := hq
   simp (disch := omega) only [t4, hlt, fl, fg, fs, go_sem, reduceEqDiff, Nat.reduceAdd, ↓reduceIte, aU_]
   refine ⟨xs.length - (k + 1), by omega, hJ _ _ _ ⟨k + 1, done ++ [[.val (.int .i64 xs[k].Job), .val (.int .i64 xs[k].Until), .val (.string xs[k].Name), .own l_Subs (xs[k].Subs).length]], rest ++ hn, by simp [upd, t0], by simp [upd, t3], by simp [upd], by simp, rfl, by omega, by simp [hd], ?_⟩⟩
   rw [take_succ_eq_append_getElem hlt, map_append]
   have hz := ki_ (r' := ⟨64, 4, (done ++ [[.val (.int .i64 xs[k].Job), .val (.int .i64 xs[k].Until), .val (.string xs[k].Name), .own l_Subs (xs[k].Subs).length]]) ++ List.replicate (xs.length - (k + 1)) ([.val (.int .i64 0), .val (.int .i64 0), .val (.string (txt [])), .val (.slice none 0 0)] : List AV)⟩) hF hf
   first | exact hz | simpa using hz
  ·simp (disch := omega) only [t0, t3, t4, hlt, aI_, go_sem, reduceEqDiff, reduceCtorEq, ↓reduceIte]
   have e1 : xs.length - k = 0 := by omega
   rw [e1, replicate_zero, append_nil, take_of_length_le (by omega)] at hF
   rw [e1, replicate_zero, append_nil]
   exact ⟨_, rfl, kY_ hF (by omega), _, rfl⟩
theorem oW_ : fp_ prog 42 az_ [.int, .int, .str, .list [.str]] := by
 refine fp_.of ?_ ?_
 ·intro H k K hK
  refine aS_ mixed Tryz.func42 tW_ (bs_ rfl ?_)
  simp (disch := omega) only [sE_, c42, go_sem]
  refine aE_ (fun n t h => t 0 = .val (.slice none 0 0) ∧ t 1 = .val (.int .i64 k) ∧ t 5 = .val (.int .i64 0) ∧ h = H) 0 ⟨rfl, rfl, rfl, rfl⟩ ?_
  rintro J hJ n t h ⟨t0, t1, t5, rfl⟩
  simp (disch := omega) only [t0, t1, t5, go_sem, reduceEqDiff, reduceCtorEq, Int.reduceLT, ↓reduceIte]
  exact hK
 ·intro l cnt lo hi E rs0 f H0 k K hT hl nd hrl hlo hhi hsh hk hb hK
  refine aS_ mixed Tryz.func42 tW_ (bs_ rfl ?_)
  obtain ⟨seg, hseg⟩ : ∃ seg, seg = (rs0.take hi).drop lo := ⟨_, rfl⟩
  rw [← hseg] at hsh hb hK
  have hsl : hi - lo = seg.length := by rw [hseg, length_drop, length_take]; omega
  have hsn : seg.length ≤ aT_ (aJ_ [.int, .int, .str, .list [.str]]) seg := eC_ (c := aJ_ [.int, .int, .str, .list [.str]]) (fun e he => by have q := hsh e he; unfold aM_ at q; obtain ⟨c, r, rfl, _, _⟩ := q; simp only [aJ_, aV_]; omega)
  simp (disch := omega) only [sE_, c42, go_sem]
  refine aE_ (fun n t h => ∃ (i : Nat) (rs : List (List AV)), t 0 = .sub l cnt lo hi ∧ t 1 = .val (.int .i64 (aC_ (aZ_ az_ [.int, .int, .str, .list [.str]]) (seg.take i) k).2) ∧ t 5 = .val (.int .i64 i) ∧ MT H0 l E 4 cnt f rs h ∧ n = seg.length - i ∧ i ≤ seg.length ∧ rs.length = cnt ∧ (rs.take hi).drop lo = (aC_ (aZ_ az_ [.int, .int, .str, .list [.str]]) (seg.take i) k).1 ++ seg.drop i) seg.length ⟨0, rs0, rfl, rfl, rfl, hT, rfl, Nat.zero_le _, hrl, hseg.symm⟩ ?_
  rintro J hJ n t h ⟨i, rs, t0, t1, t5, hM, rfl, hi1, hrl1, hS⟩
  by_cases hlt : i < seg.length
  ·have hA : (aC_ (aZ_ az_ [.int, .int, .str, .list [.str]]) (seg.take i) k).1.length = i := by rw [fy_, length_take]; omega
   have hst := iU_ (g := (aZ_ az_ [.int, .int, .str, .list [.str]])) (k := k) hlt
   have hcn := g5_ (c := aJ_ [.int, .int, .str, .list [.str]]) hlt
   have hzz : (aC_ (aZ_ az_ [.int, .int, .str, .list [.str]]) (seg.take i) k).2 = k + aT_ (aJ_ [.int, .int, .str, .list [.str]]) (seg.take i) := cy_ (fun x _ k => cj_ [.int, .int, .str, .list [.str]] x k) k
   have hj4 : (lo : Int) + (i : Int) < (hi : Int) := by omega
   have hj2 := (jK_ hS hA hlt).2.1
   have hsd := hsh _ (getElem_mem hlt)
   have hss : ∀ d, ((rs.set (lo + i) d).take hi).drop lo = ((aC_ (aZ_ az_ [.int, .int, .str, .list [.str]]) (seg.take i) k).1 ++ [d]) ++ seg.drop (i + 1) := fun d => in_ hS hA hlt
   clear hS hA
   generalize seg[i] = d at hst hcn hj2 hsd
   obtain ⟨z, hz⟩ : ∃ z, z = (aC_ (aZ_ az_ [.int, .int, .str, .list [.str]]) (seg.take i) k).2 := ⟨_, rfl⟩
   rw [← hz] at hst hzz t1
   have hz0 : 0 ≤ z := by omega
   unfold aM_ at hsd
   obtain ⟨_, d0, hd0, hc0, hsd⟩ := hsd
   unfold a8_ at hc0
   obtain ⟨n0, rfl⟩ := hc0
   unfold aM_ at hsd
   obtain ⟨_, d1, hd1, hc1, hsd⟩ := hsd
   unfold a8_ at hc1
   obtain ⟨n1, rfl⟩ := hc1
   unfold aM_ at hsd
   obtain ⟨_, d2, hd2, hc2, hsd⟩ := hsd
   unfold a8_ at hc2
   obtain ⟨s2, rfl⟩ := hc2
   unfold aM_ at hsd
   obtain ⟨_, d3, hd3, hc3, hsd⟩ := hsd
   unfold a8_ at hc3
   obtain ⟨e3, rfl, hc3⟩ := hc3
   unfold aM_ at hsd
   subst hsd
   subst hd3
   subst hd2
   subst hd1
   subst hd0
   simp only [aJ_, aV_, Nat.add_zero] at hcn
   obtain ⟨m, es, e, f2, r1, r2, r3, ho_0, nd2, hl2, hfin⟩ := hM.elem hl nd hj2
   obtain ⟨q0, rfl, ho_1⟩ := ho_0.inv_val
   obtain ⟨q1, rfl, ho_2⟩ := ho_1.inv_val
   obtain ⟨q2, rfl, ho_3⟩ := ho_2.inv_val
   obtain ⟨c3, q3, g3, w3, rfl, rfl, hw3, ho_4⟩ := ho_3.inv_cons
   obtain ⟨rfl, rfl⟩ := ho_4.inv_nil
   simp only [append_nil] at nd2 hl2
   have nd_3 : g3.Nodup := by first | exact nd2 | exact nd2.1 | exact nd2.2.1 | (simp_all; done)
   have hl_3 : l ∉ g3 := fun q => hl2 (by simp [q])
   have u1 : ∀ r, (h.set l r)[l]? = some r := fun r => getElem?_set_self (List.getElem?_eq_some_iff.1 r1).1
   have u2 : ∀ x, (es.set (lo + i) x)[lo + i]? = some x := fun x => getElem?_set_self (List.getElem?_eq_some_iff.1 r3).1
   simp (disch := omega) only [t0, t1, t5, hlt, hsl, hj4, hlo, r1, r2, r3, u1, u2, ls_, set_set, go_sem, reduceEqDiff, Nat.reduceAdd, reduceLeDiff, reduceCtorEq, ↓reduceIte]
   refine aa_.call (d2_ (z + 1 + 1) (by omega) (by omega) _) ?_
   simp (disch := omega) only [t0, t5, hj4, r2, u1, u2, ls_, set_set, go_sem, reduceEqDiff, Nat.reduceAdd, reduceLeDiff, reduceCtorEq, ↓reduceIte]
   refine hY_ _ c3 e3 g3 _ (z + 1 + 1 + 1) _ (hw3.keep fun x hx => ?_) nd_3 hc3 (by omega) (by omega) (fun H1 m1 x1 y1 v1 => ?_)
   ·first | rfl | exact getElem?_set_ne (by rintro rfl; exact hl_3 hx)
   have hq3 : (aC_ (aZ_ az_ [.str]) e3 (z + 1 + 1 + 1)).2 = z + 1 + 1 + 1 + (aT_ (aJ_ [.str]) e3 : Nat) := cy_ (fun x _ k => cj_ _ x k) _
   have p1 := (y1 l hl_3).trans (by first | exact u1 _ | exact r1)
   have un1 : ∀ r, (H1.set l r)[l]? = some r := fun r => getElem?_set_self (List.getElem?_eq_some_iff.1 p1).1
   simp (disch := omega) only [t5, go_sem, reduceEqDiff, ↓reduceIte]
   refine ⟨seg.length - (i + 1), by omega, hJ _ _ _ ⟨i + 1, rs.set (lo + i) _, by simp [upd, t0], by rw [hst]; simp [upd, aZ_, a9_], by simp [upd], hfin _ _ _ ?_ (by first | exact un1 _ | exact p1) ?_ ?_, rfl, by omega, by simpa using hrl1, by rw [hst]; exact hss _⟩⟩
   ·simp only [ls_, x1]
   ·intro x hx
    simp only [mem_cons, not_or, append_nil] at hx
    try rw [getElem?_set_ne (Ne.symm hx.1)]
    rw [y1 x (by intro hq; first | (simp_all; done) | exact nd.2.2 _ hq _ hx rfl | exact nd.2.2 _ hx _ hq rfl | grind)]
    try rw [getElem?_set_ne (Ne.symm hx.1)]
   ·simp only [aZ_, a9_]
    exact ⟨_, (au_.mk_val _ (au_.mk_val _ (au_.mk_val _ (au_.mk_list (v1.keep fun x hx => by first | rfl | ((try rw [getElem?_set_ne (by rintro rfl; exact hl_3 hx)]))) (au_.mk_nil (Own _ (0 + 1)))))))⟩
  ·obtain ⟨m, es, r1, r2, _⟩ := hM.out
   have e1 : seg.take i = seg := take_of_length_le (by omega)
   have e2 : seg.drop i = [] := drop_eq_nil_of_le (by omega)
   rw [e1] at t1 hS
   rw [e2, append_nil] at hS
   simp (disch := omega) only [t0, t1, t5, hlt, hsl, hlo, r1, r2, go_sem, reduceEqDiff, reduceCtorEq, ↓reduceIte]
   exact hK _ rs hM hS
theorem oJ_ (es : List (List AV)) (k : Int) (hsh : ∀ e ∈ es, aM_ [.int, .int, .str, .list [.str]] e) (hk : 0 ≤ k) (hb : k + aT_ (aJ_ [.int, .int, .str, .list [.str]]) es ≤ 4611686018427387904) (h : List Row) : aa_ prog 63 [.list 0 4 es, .val (.int .i64 k)] h (.val (.int .i64 (by_ (bv_ az_ [.int, .int, .str, .list [.str]]) es k))) := by
 refine ap_ mixed Tryz.func63 ys_ rfl rfl ?_ h
 have hsn : es.length ≤ aT_ (aJ_ [.int, .int, .str, .list [.str]]) es := eC_ (c := aJ_ [.int, .int, .str, .list [.str]]) (fun e he => by have q := hsh e he; unfold aM_ at q; obtain ⟨c, r, rfl, _, _⟩ := q; simp only [aJ_, aV_]; omega)
 simp (disch := omega) only [wH_, c63, go_sem, Int.reduceNeg]
 refine aE_ (fun n t h => ∃ (i : Nat) (z : Int), t 0 = .list 0 4 es ∧ t 1 = .val (.int .i64 z) ∧ t 5 = .val (.int .i64 i) ∧ n = es.length - i ∧ i ≤ es.length ∧ 0 ≤ z ∧ z + aT_ (aJ_ [.int, .int, .str, .list [.str]]) (es.drop i) ≤ 4611686018427387904 ∧ by_ (bv_ az_ [.int, .int, .str, .list [.str]]) es k = by_ (bv_ az_ [.int, .int, .str, .list [.str]]) (es.drop i) z) es.length ⟨0, k, rfl, rfl, rfl, rfl, Nat.zero_le _, hk, hb, rfl⟩ ?_
 rintro J hJ n t h ⟨i, z, t0, t1, t5, rfl, hi, hz0, hzb, hS⟩
 by_cases hlt : i < es.length
 ·rw [ik_ hlt] at hS
  rw [lj_ hlt] at hzb
  have hsd := hsh _ (getElem_mem hlt)
  obtain ⟨d, hd⟩ : ∃ d, es[i] = d := ⟨_, rfl⟩
  rw [hd] at hS hzb hsd
  have hg : es[i]? = some d := by rw [getElem?_eq_getElem hlt, hd]
  unfold aM_ at hsd
  obtain ⟨_, d0, hd0, hc0, hsd⟩ := hsd
  unfold a8_ at hc0
  obtain ⟨n0, rfl⟩ := hc0
  unfold aM_ at hsd
  obtain ⟨_, d1, hd1, hc1, hsd⟩ := hsd
  unfold a8_ at hc1
  obtain ⟨n1, rfl⟩ := hc1
  unfold aM_ at hsd
  obtain ⟨_, d2, hd2, hc2, hsd⟩ := hsd
  unfold a8_ at hc2
  obtain ⟨s2, rfl⟩ := hc2
  unfold aM_ at hsd
  obtain ⟨_, d3, hd3, hc3, hsd⟩ := hsd
  unfold a8_ at hc3
  obtain ⟨e3, rfl, hc3⟩ := hc3
  unfold aM_ at hsd
  subst hsd
  subst hd3
  subst hd2
  subst hd1
  subst hd0
  simp only [aJ_, aV_, Nat.add_zero] at hzb
  simp (disch := omega) only [t0, t1, t5, hlt, hg, go_sem, reduceEqDiff, Nat.reduceAdd, reduceCtorEq, Int.reduceNeg, ↓reduceIte]
  by_cases q0 : n0 = z
  case neg =>
   simp (disch := omega) only [q0, go_sem, Int.reduceNeg, ↓reduceIte]
   exact an_ (by rw [hS]; exact (cN_ (by simp (disch := first | assumption | omega) only [go_])).symm)
  simp (disch := omega) only [t0, t1, t5, hg, q0, go_sem, reduceEqDiff, Nat.reduceAdd, reduceLeDiff, reduceCtorEq, Int.reduceNeg, ↓reduceIte]
  by_cases q1 : n1 = z + 1
  case neg =>
   simp (disch := omega) only [q1, go_sem, Int.reduceNeg, ↓reduceIte]
   exact an_ (by rw [hS]; exact (cN_ (by simp (disch := first | assumption | omega) only [dS_, go_])).symm)
  simp (disch := omega) only [t0, t5, hg, q1, go_sem, reduceEqDiff, Nat.reduceAdd, reduceLeDiff, reduceCtorEq, Int.reduceNeg, ↓reduceIte]
  refine aa_.q (d2_ (z + 1 + 1) (by omega) (by omega) _) ?_
  by_cases q2 : s2 = az_ (z + 1 + 1)
  case neg =>
   simp (disch := omega) only [q2, go_sem, Int.reduceNeg, ↓reduceIte]
   exact an_ (by rw [hS]; exact (cN_ (by simp (disch := first | assumption | omega) only [dS_, jH_])).symm)
  simp (disch := omega) only [t0, t5, hg, q2, go_sem, reduceEqDiff, Nat.reduceAdd, reduceLeDiff, reduceCtorEq, Int.reduceNeg, ↓reduceIte]
  refine aa_.call (ib_ e3 (z + 1 + 1 + 1) hc3 (by omega) (by omega) _) ?_
  have hq3 := gW_ (c := aJ_ [.str]) (fun e he k hk => gQ_ (mt := az_) [.str] e k (hc3 e he) hk) (z + 1 + 1 + 1) (by omega)
  by_cases q3 : (by_ (bv_ az_ [.str]) e3 (z + 1 + 1 + 1)) < 0
  ·simp (disch := omega) only [q3, go_sem, Int.reduceNeg, ↓reduceIte]
   exact an_ (by rw [hS]; exact (cN_ (by simp (disch := first | assumption | omega) only [dS_, g6_, lO_])).symm)
  simp (disch := omega) only [t5, q3, go_sem, reduceEqDiff, Int.reduceNeg, ↓reduceIte]
  exact ⟨es.length - (i + 1), by omega, hJ _ _ _ ⟨i + 1, (by_ (bv_ az_ [.str]) e3 (z + 1 + 1 + 1)), by simp [upd, t0], by simp [upd], by simp [upd], rfl, by omega, by omega, by omega, by rw [hS]; exact gf_ (by simp (disch := first | assumption | omega) only [dS_, g6_, mz_, iD_]) (by omega)⟩⟩
 ·simp (disch := omega) only [t0, t1, t5, hlt, go_sem, reduceEqDiff, reduceCtorEq, Int.reduceNeg, ↓reduceIte]
  exact an_ (by rw [hS, drop_eq_nil_of_le (by omega)]; rfl)
theorem mv_ (x : ab_) : aM_ [.list [.int, .int, .str, .list [.str]], .list [.int, .int, .str, .list [.str]]] (ab_.cells x) := by
 simp only [ab_.cells, aM_, a8_]
 exact ⟨_, _, rfl, ⟨_, rfl, rg_ _⟩, ⟨_, _, rfl, ⟨_, rfl, rx_ _⟩, rfl⟩⟩
theorem i2_ (x : ab_) (hb : ab_.sz x ≤ 1048576) : bG_ [.list [.int, .int, .str, .list [.str]], .list [.int, .int, .str, .list [.str]]] (ab_.cells x) ≤ 8 * 1048576 := by
 have c0 := pL_ (x.Held)
 have c1 := ro_ (x.Asks)
 have hsz0 : ∀ y : ab_, ab_.sz y = (ar_ ac_.sz) y.Held + (ar_ ae_.sz) y.Asks := fun _ => rfl
 simp only [hsz0] at *
 simp only [ab_.cells, bG_, aV_]
 omega
theorem mZ_ (x : ab_) (hb : ab_.sz x ≤ 1048576) : br_ prog 10 [.agg (ab_.cells x)] (.agg (ab_.cells x)) (fun a => ∃ l_Held l_Asks, a = .agg [.own l_Held (x.Held).length, .own l_Asks (x.Asks).length]) := by
 have hsz : ab_.sz x = (ar_ ac_.sz) x.Held + (ar_ ae_.sz) x.Asks := rfl
 refine e6_ mixed Tryz.func10 td_ rfl (fun h0 => ?_)
 simp (disch := omega) only [sD_, c10, ab_.cells, go_sem, reduceEqDiff, Nat.reduceAdd, ↓reduceIte]
 refine m4_ x.Held (by omega) _ _ (fun av1 hn1 hf1 hq1 => ?_)
 obtain ⟨l_Held, rfl⟩ := hq1
 simp (disch := omega) only [go_sem, reduceEqDiff, Nat.reduceAdd, reduceLeDiff, ↓reduceIte]
 refine nW_ x.Asks (by omega) _ _ (fun av2 hn2 hf2 hq2 => ?_)
 obtain ⟨l_Asks, rfl⟩ := hq2
 simp (disch := omega) only [go_sem, reduceEqDiff, Nat.reduceAdd, ↓reduceIte, c2_]
 exact ⟨_, rfl, jP_ (aH_.cons ((hf1.b.keep fun l q1 q2 => qh_ (t := hn2) (by simp) q1 q2).widen (by first | omega | (simp; done) | (simp; omega)) (Nat.le_refl _)) (aH_.cons ((hf2.b.keep fun l q1 q2 => qh_ (t := []) (by simp) q1 q2).widen (by first | omega | (simp; done) | (simp; omega)) (Nat.le_refl _)) (aH_.nil _ _ _) ⟨(by first | omega | (simp; done) | (simp; omega)), (by first | omega | (simp; done) | (simp; omega))⟩) ⟨(by first | omega | (simp; done) | (simp; omega)), (by first | omega | (simp; done) | (simp; omega))⟩), l_Held, l_Asks, rfl⟩
theorem jm_ : po_ prog 14 az_ [.list [.int, .int, .str, .list [.str]], .list [.int, .int, .str, .list [.str]]] := by
 intro m cs ds f H k K ho_0 nd hsh hk hb hK
 unfold aM_ at hsh
 obtain ⟨_, d0, hd0, hc0, hsh⟩ := hsh
 unfold a8_ at hc0
 obtain ⟨e0, rfl, hc0⟩ := hc0
 unfold aM_ at hsh
 obtain ⟨_, d1, hd1, hc1, hsh⟩ := hsh
 unfold a8_ at hc1
 obtain ⟨e1, rfl, hc1⟩ := hc1
 unfold aM_ at hsh
 subst hsh
 subst hd1
 subst hd0
 simp only [bG_, aV_, Nat.add_zero] at hb
 have hlt : ∀ x ∈ f, x < H.length := fun x hx => by
  obtain ⟨row, _, _, _, q, _⟩ := au_.inner (fun a r f ho => Own.inner ho) ho_0 x hx
  exact (List.getElem?_eq_some_iff.1 q).1
 obtain ⟨c0, q0, g0, w0, rfl, rfl, hw0, ho_1⟩ := ho_0.inv_cons
 obtain ⟨c1, q1, g1, w1, rfl, rfl, hw1, ho_2⟩ := ho_1.inv_cons
 obtain ⟨rfl, rfl⟩ := ho_2.inv_nil
 simp only [nodup_append, mem_append, append_nil] at nd hlt
 have nd_0 : g0.Nodup := by first | exact nd | exact nd.1 | exact nd.2.1 | (simp_all; done)
 have hl_0 : ∀ x ∈ g0, x < H.length := fun x hx => hlt x (by simp [hx])
 have cc0 := hw0.cell_list
 simp only [AV.cell, Value.oneCell'] at cc0
 have nd_1 : g1.Nodup := by first | exact nd | exact nd.1 | exact nd.2.1 | (simp_all; done)
 have hl_1 : ∀ x ∈ g1, x < H.length := fun x hx => hlt x (by simp [hx])
 have cc1 := hw1.cell_list
 simp only [AV.cell, Value.oneCell'] at cc1
 refine aS_ mixed Tryz.func14 yh_ (bs_ rfl ?_)
 simp (disch := omega) only [xM_, c14, cc0, cc1, go_sem, reduceEqDiff, Nat.reduceAdd, ↓reduceIte]
 refine nI_ _ c0 e0 g0 _ (k) _ (hw0.keep fun x hx => ?_) nd_0 hc0 (by omega) (by omega) (fun H1 m1 x1 y1 v1 => ?_)
 ·exact getElem?_append_left (hl_0 x hx)
 have hq0 : (aC_ (aZ_ az_ [.int, .int, .str, .list [.str]]) e0 (k)).2 = k + (aT_ (aJ_ [.int, .int, .str, .list [.str]]) e0 : Nat) := cy_ (fun x _ k => cj_ _ x k) _
 have p1 := (y1 H.length (fun hq => by have := hl_0 _ hq; omega)).trans (di_ _ _)
 simp (disch := omega) only [p1, go_sem, reduceEqDiff, ↓reduceIte]
 refine oW_ _ c1 e1 g1 _ ((aC_ (aZ_ az_ [.int, .int, .str, .list [.str]]) e0 (k)).2) _ (hw1.keep fun x hx => ?_) nd_1 hc1 (by omega) (by omega) (fun H2 m2 x2 y2 v2 => ?_)
 ·rw [y1 x (by intro hq; first | (simp_all; done) | exact nd.2.2 _ hq _ hx rfl | exact nd.2.2 _ hx _ hq rfl | grind)]; exact getElem?_append_left (hl_1 x hx)
 have hq1 : (aC_ (aZ_ az_ [.int, .int, .str, .list [.str]]) e1 ((aC_ (aZ_ az_ [.int, .int, .str, .list [.str]]) e0 (k)).2)).2 = (aC_ (aZ_ az_ [.int, .int, .str, .list [.str]]) e0 (k)).2 + (aT_ (aJ_ [.int, .int, .str, .list [.str]]) e1 : Nat) := cy_ (fun x _ k => cj_ _ x k) _
 have p2 := (y2 H.length (fun hq => by have := hl_1 _ hq; omega)).trans (by first | exact di_ _ _ | exact p1)
 simp (disch := omega) only [go_sem, ↓reduceIte]
 have hfr : ∀ x, x < H.length → x ∉ (g0 ++ g1) → H2[x]? = H[x]? := by
  intro x hx hxf
  try simp only [mem_append, not_or] at hxf
  rw [y2 x (by intro hq; first | (simp_all; done) | exact nd.2.2 _ hq _ hx rfl | exact nd.2.2 _ hx _ hq rfl | grind)]
  rw [y1 x (by intro hq; first | (simp_all; done) | exact nd.2.2 _ hq _ hx rfl | exact nd.2.2 _ hx _ hq rfl | grind)]
  exact getElem?_append_left hx
 have hfin := hK H2 (by simp only [x2, x1, la_]; omega) (fun x hx hxf => hfr x hx (by simpa using hxf)) (by simp only [bc_, a9_]; exact ⟨_, (au_.mk_list (v1.keep fun x hx => by rw [y2 x (by intro hq; first | (simp_all; done) | exact nd.2.2 _ hq _ hx rfl | exact nd.2.2 _ hx _ hq rfl | grind)]) (au_.mk_list (v2.keep fun x hx => by rfl) (au_.mk_nil (Own _ (0 + 1)))))⟩)
 simp only [bc_, a9_] at hfin
 exact hfin
theorem fK_ (ds : List AV) (k : Int) (hsh : aM_ [.list [.int, .int, .str, .list [.str]], .list [.int, .int, .str, .list [.str]]] ds) (hp : ds.all AV.flat = true) (hk : 0 ≤ k) (hb : k + bG_ [.list [.int, .int, .str, .list [.str]], .list [.int, .int, .str, .list [.str]]] ds ≤ 4611686018427387904) (h : List Row) : aa_ prog 25 [.agg ds, .val (.int .i64 k)] h (.val (.int .i64 (er_ az_ [.list [.int, .int, .str, .list [.str]], .list [.int, .int, .str, .list [.str]]] ds k))) := by
 unfold aM_ at hsh
 obtain ⟨_, d0, hd0, hc0, hsh⟩ := hsh
 unfold a8_ at hc0
 obtain ⟨e0, rfl, hc0⟩ := hc0
 unfold aM_ at hsh
 obtain ⟨_, d1, hd1, hc1, hsh⟩ := hsh
 unfold a8_ at hc1
 obtain ⟨e1, rfl, hc1⟩ := hc1
 unfold aM_ at hsh
 subst hsh
 subst hd1
 subst hd0
 refine ap_ mixed Tryz.func25 yo_ rfl (by simp only [all_cons, all_nil, AV.plain, hp]; rfl) ?_ h
 simp only [bG_, aV_, Nat.add_zero] at hb
 simp (disch := omega) only [w5_, c25, go_sem, reduceEqDiff, Nat.reduceAdd, Int.reduceNeg, ↓reduceIte]
 refine aa_.call (nF_ e0 (k) hc0 (by omega) (by omega) _) ?_
 have hq0 := gW_ (c := aJ_ [.int, .int, .str, .list [.str]]) (fun e he k hk => gQ_ (mt := az_) [.int, .int, .str, .list [.str]] e k (hc0 e he) hk) (k) (by omega)
 by_cases q0 : (by_ (bv_ az_ [.int, .int, .str, .list [.str]]) e0 (k)) < 0
 ·simp (disch := omega) only [q0, go_sem, Int.reduceNeg, ↓reduceIte]
  exact an_ (by simp only [er_, bI_, *, if_true])
 simp (disch := omega) only [q0, go_sem, reduceEqDiff, Int.reduceNeg, ↓reduceIte]
 refine aa_.call (oJ_ e1 ((by_ (bv_ az_ [.int, .int, .str, .list [.str]]) e0 (k))) hc1 (by omega) (by omega) _) ?_
 have hq1 := gW_ (c := aJ_ [.int, .int, .str, .list [.str]]) (fun e he k hk => gQ_ (mt := az_) [.int, .int, .str, .list [.str]] e k (hc1 e he) hk) ((by_ (bv_ az_ [.int, .int, .str, .list [.str]]) e0 (k))) (by omega)
 by_cases q1 : (by_ (bv_ az_ [.int, .int, .str, .list [.str]]) e1 ((by_ (bv_ az_ [.int, .int, .str, .list [.str]]) e0 (k)))) < 0
 ·simp (disch := omega) only [q1, go_sem, Int.reduceNeg, ↓reduceIte]
  exact an_ (by simp only [er_, bI_, *, if_true, if_false])
 simp (disch := omega) only [q1, go_sem, reduceEqDiff, Int.reduceNeg, ↓reduceIte]
 exact an_ (by simp only [er_, bI_, *, if_false])
theorem k4_ (xs : List Int) : ∀ e ∈ xs.map bS_, aM_ [.int] e := by
 intro e he
 obtain ⟨x, _, q⟩ := mem_map.1 he; subst q
 simp only [aM_, a8_, bS_]
 exact ⟨_, _, rfl, ⟨_, rfl⟩, rfl⟩
theorem oX_ (xs : List Int) : aT_ (aJ_ [.int]) (xs.map bS_) ≤ 1 * (ar_ (fun _ => 0)) xs := by
 refine gi_ (fun x => ?_) xs
 simp only [aJ_, aV_]
 omega
theorem lq_ (xs : List Int) (hb : (ar_ (fun _ => 0)) xs ≤ 1048576) : aT_ (aJ_ [.int]) (xs.map bS_) ≤ 1 * 1048576 := by
 have := oX_ xs
 omega
theorem i4_ : fp_ prog 15 az_ [.int] := by
 refine fp_.of ?_ ?_
 ·intro H k K hK
  refine aS_ mixed Tryz.func15 tf_ (bs_ rfl ?_)
  simp (disch := omega) only [sy_, c15, go_sem]
  refine aE_ (fun n t h => t 0 = .val (.slice none 0 0) ∧ t 1 = .val (.int .i64 k) ∧ t 5 = .val (.int .i64 0) ∧ h = H) 0 ⟨rfl, rfl, rfl, rfl⟩ ?_
  rintro J hJ n t h ⟨t0, t1, t5, rfl⟩
  simp (disch := omega) only [t0, t1, t5, go_sem, reduceEqDiff, reduceCtorEq, Int.reduceLT, ↓reduceIte]
  exact hK
 ·intro l cnt lo hi E rs0 f H0 k K hT hl nd hrl hlo hhi hsh hk hb hK
  refine aS_ mixed Tryz.func15 tf_ (bs_ rfl ?_)
  obtain ⟨seg, hseg⟩ : ∃ seg, seg = (rs0.take hi).drop lo := ⟨_, rfl⟩
  rw [← hseg] at hsh hb hK
  have hsl : hi - lo = seg.length := by rw [hseg, length_drop, length_take]; omega
  have hsn : seg.length ≤ aT_ (aJ_ [.int]) seg := eC_ (c := aJ_ [.int]) (fun e he => by have q := hsh e he; unfold aM_ at q; obtain ⟨c, r, rfl, _, _⟩ := q; simp only [aJ_, aV_]; omega)
  simp (disch := omega) only [sy_, c15, go_sem]
  refine aE_ (fun n t h => ∃ (i : Nat) (rs : List (List AV)), t 0 = .sub l cnt lo hi ∧ t 1 = .val (.int .i64 (aC_ (aZ_ az_ [.int]) (seg.take i) k).2) ∧ t 5 = .val (.int .i64 i) ∧ MT H0 l E 1 cnt f rs h ∧ n = seg.length - i ∧ i ≤ seg.length ∧ rs.length = cnt ∧ (rs.take hi).drop lo = (aC_ (aZ_ az_ [.int]) (seg.take i) k).1 ++ seg.drop i) seg.length ⟨0, rs0, rfl, rfl, rfl, hT, rfl, Nat.zero_le _, hrl, hseg.symm⟩ ?_
  rintro J hJ n t h ⟨i, rs, t0, t1, t5, hM, rfl, hi1, hrl1, hS⟩
  by_cases hlt : i < seg.length
  ·have hA : (aC_ (aZ_ az_ [.int]) (seg.take i) k).1.length = i := by rw [fy_, length_take]; omega
   have hst := iU_ (g := (aZ_ az_ [.int])) (k := k) hlt
   have hcn := g5_ (c := aJ_ [.int]) hlt
   have hzz : (aC_ (aZ_ az_ [.int]) (seg.take i) k).2 = k + aT_ (aJ_ [.int]) (seg.take i) := cy_ (fun x _ k => cj_ [.int] x k) k
   have hj4 : (lo : Int) + (i : Int) < (hi : Int) := by omega
   have hj2 := (jK_ hS hA hlt).2.1
   have hsd := hsh _ (getElem_mem hlt)
   have hss : ∀ d, ((rs.set (lo + i) d).take hi).drop lo = ((aC_ (aZ_ az_ [.int]) (seg.take i) k).1 ++ [d]) ++ seg.drop (i + 1) := fun d => in_ hS hA hlt
   clear hS hA
   generalize seg[i] = d at hst hcn hj2 hsd
   obtain ⟨z, hz⟩ : ∃ z, z = (aC_ (aZ_ az_ [.int]) (seg.take i) k).2 := ⟨_, rfl⟩
   rw [← hz] at hst hzz t1
   have hz0 : 0 ≤ z := by omega
   unfold aM_ at hsd
   obtain ⟨_, d0, hd0, hc0, hsd⟩ := hsd
   unfold a8_ at hc0
   obtain ⟨n0, rfl⟩ := hc0
   unfold aM_ at hsd
   subst hsd
   subst hd0
   simp only [aJ_, aV_, Nat.add_zero] at hcn
   obtain ⟨m, es, e, f2, r1, r2, r3, ho_0, nd2, hl2, hfin⟩ := hM.elem hl nd hj2
   obtain ⟨q0, rfl, ho_1⟩ := ho_0.inv_val
   obtain ⟨rfl, rfl⟩ := ho_1.inv_nil
   have u1 : ∀ r, (h.set l r)[l]? = some r := fun r => getElem?_set_self (List.getElem?_eq_some_iff.1 r1).1
   have u2 : ∀ x, (es.set (lo + i) x)[lo + i]? = some x := fun x => getElem?_set_self (List.getElem?_eq_some_iff.1 r3).1
   simp (disch := omega) only [t0, t1, t5, hlt, hsl, hj4, hlo, r1, r2, r3, go_sem, reduceEqDiff, reduceCtorEq, ↓reduceIte]
   refine ⟨seg.length - (i + 1), by omega, hJ _ _ _ ⟨i + 1, rs.set (lo + i) _, by simp [upd, t0], by rw [hst]; simp [upd, aZ_, a9_], by simp [upd], hfin _ _ _ ?_ (by first | exact u1 _ | exact u1 _) ?_ ?_, rfl, by omega, by simpa using hrl1, by rw [hst]; exact hss _⟩⟩
   ·simp only [ls_]
   ·intro x hx
    simp only [mem_cons, not_or] at hx
    try rw [getElem?_set_ne (Ne.symm hx.1)]
   ·simp only [aZ_, a9_]
    exact ⟨_, (au_.mk_val _ (au_.mk_nil (Own _ (0 + 1))))⟩
  ·obtain ⟨m, es, r1, r2, _⟩ := hM.out
   have e1 : seg.take i = seg := take_of_length_le (by omega)
   have e2 : seg.drop i = [] := drop_eq_nil_of_le (by omega)
   rw [e1] at t1 hS
   rw [e2, append_nil] at hS
   simp (disch := omega) only [t0, t1, t5, hlt, hsl, hlo, r1, r2, go_sem, reduceEqDiff, reduceCtorEq, ↓reduceIte]
   exact hK _ rs hM hS
theorem cC_ (es : List (List AV)) (k : Int) (hsh : ∀ e ∈ es, aM_ [.int] e) (hk : 0 ≤ k) (hb : k + aT_ (aJ_ [.int]) es ≤ 4611686018427387904) (h : List Row) : aa_ prog 16 [.list 0 1 es, .val (.int .i64 k)] h (.val (.int .i64 (by_ (bv_ az_ [.int]) es k))) := by
 refine ap_ mixed Tryz.func16 xX_ rfl rfl ?_ h
 have hsn : es.length ≤ aT_ (aJ_ [.int]) es := eC_ (c := aJ_ [.int]) (fun e he => by have q := hsh e he; unfold aM_ at q; obtain ⟨c, r, rfl, _, _⟩ := q; simp only [aJ_, aV_]; omega)
 simp (disch := omega) only [xH_, c16, go_sem, Int.reduceNeg]
 refine aE_ (fun n t h => ∃ (i : Nat) (z : Int), t 0 = .list 0 1 es ∧ t 1 = .val (.int .i64 z) ∧ t 5 = .val (.int .i64 i) ∧ n = es.length - i ∧ i ≤ es.length ∧ 0 ≤ z ∧ z + aT_ (aJ_ [.int]) (es.drop i) ≤ 4611686018427387904 ∧ by_ (bv_ az_ [.int]) es k = by_ (bv_ az_ [.int]) (es.drop i) z) es.length ⟨0, k, rfl, rfl, rfl, rfl, Nat.zero_le _, hk, hb, rfl⟩ ?_
 rintro J hJ n t h ⟨i, z, t0, t1, t5, rfl, hi, hz0, hzb, hS⟩
 by_cases hlt : i < es.length
 ·rw [ik_ hlt] at hS
  rw [lj_ hlt] at hzb
  have hsd := hsh _ (getElem_mem hlt)
  obtain ⟨d, hd⟩ : ∃ d, es[i] = d := ⟨_, rfl⟩
  rw [hd] at hS hzb hsd
  have hg : es[i]? = some d := by rw [getElem?_eq_getElem hlt, hd]
  unfold aM_ at hsd
  obtain ⟨_, d0, hd0, hc0, hsd⟩ := hsd
  unfold a8_ at hc0
  obtain ⟨n0, rfl⟩ := hc0
  unfold aM_ at hsd
  subst hsd
  subst hd0
  simp only [aJ_, aV_, Nat.add_zero] at hzb
  simp (disch := omega) only [t0, t1, t5, hlt, hg, go_sem, reduceEqDiff, reduceCtorEq, Int.reduceNeg, ↓reduceIte]
  by_cases q0 : n0 = z
  case neg =>
   simp (disch := omega) only [q0, go_sem, Int.reduceNeg, ↓reduceIte]
   exact an_ (by rw [hS]; exact (cN_ (by simp (disch := first | assumption | omega) only [go_])).symm)
  simp (disch := omega) only [t1, t5, q0, go_sem, reduceEqDiff, Int.reduceNeg, ↓reduceIte]
  exact ⟨es.length - (i + 1), by omega, hJ _ _ _ ⟨i + 1, z + 1, by simp [upd, t0], by simp [upd], by simp [upd], rfl, by omega, by omega, by omega, by rw [hS]; exact gf_ (by simp (disch := first | assumption | omega) only [dS_, iD_]) (by omega)⟩⟩
 ·simp (disch := omega) only [t0, t1, t5, hlt, go_sem, reduceEqDiff, reduceCtorEq, Int.reduceNeg, ↓reduceIte]
  exact an_ (by rw [hS, drop_eq_nil_of_le (by omega)]; rfl)
end Go.Proofs.YtodgohgdnmifaaaGreatDoor
