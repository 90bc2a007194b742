/-
 Contracts of functions. Conditions: as each theorem says.
-/
import Derived.Test.YtfkddbkjmkceaaaGreatDoorGnFnExactCommitTrans
import Derived.Test.YtfkddbkjmkceaaaGreatDoorAwC
import Derived.Test.YtfkddbkjmkceaaaGreatDoorPlNum
namespace Go.Proofs.YtfkddbkjmkceaaaGreatDoor
open Tryz (prog)
open Nat (reduceEqDiff reduceLeDiff)
open List
open Go.AW
set_option linter.unusedVariables false
set_option linter.unusedSimpArgs false
set_option maxRecDepth 4000
def aH_ (k : Int) : ByteArray := if k ≤ 0 then txt [109, 48] else txt (109 :: cg_ k.toNat)
theorem rl_ (u : Nat) (h : u ≠ 0) : cg_ u = cg_ (u / 10) ++ [UInt8.ofNat (48 + u % 10)] := by
 unfold cg_
 rw [if_neg h, Lib.decDigits]
 by_cases q : u < 10
 ·rw [dif_pos q, if_pos (by omega)]
  have : u % 10 = u := by omega
  rw [this]; rfl
 ·rw [dif_neg q, if_neg (by omega)]
theorem pP_ (u : Nat) (h : u ≤ 4611686018427387904) : (cg_ u).length ≤ 19 := by
 unfold cg_
 split
 ·simp
 ·rw [Go.Lib.decDigits_length]; exact hV_ 18 _ (by omega)
def c64 : LC :=
 .q [.o [.s 2 (.mov (.const (.string ⟨#[]⟩)))], .q [.o [.m 4 0, .bk 5 .leq false 4 0], .k 5 (.q [.o [.s 2 (.mov (.const (.string ⟨#[109, 48]⟩)))], .ret]) .skip], .o [.s 3 (.mov (.const (.string ⟨#[]⟩)))], .block 0 (.loop
 (.q [.q [.o [.m 6 0, .bk 7 .gtr false 6 0], .k 7 .skip (.exit 0)], .block 1 (.q [.o [.m 8 0, .bk 9 .rem false 8 10, .s 10 (.bin .add false (.const (.int .i64 48)) (.tmp 9)), .s 11 (.convInt .u8 (.tmp 10)), .s 12
 (.buildSlice 5 1 (.int .u8 0) 1 [(0, .tmp 11)]), .s 13 (.toStr (.tmp 12)), .m 14 3, .bb 15 .add false 13 14, .m 3 15], .o [.m 16 0, .bk 17 .quo false 16 10, .m 0 17]])])), .o [.m 18 3, .s 19 (.bin .add false (.const
 (.string ⟨#[109]⟩)) (.tmp 18)), .m 2 19], .ret]
def u0_ : LF := ⟨1, 20, c64, [.tmp 2]⟩
theorem C7_ : au_ prog Tryz.f64 u0_ := ah_
theorem ci_ (k : Int) (hk : 0 ≤ k) (hb : k ≤ 4611686018427387904) (h : List Row) : aa_ prog 64 [.val (.int .i64 k)] h (.val (.string (aH_ k))) := by
 refine aj_ mixed Tryz.func64 C7_ rfl rfl ?_ h
 by_cases h0 : k ≤ 0
 ·simp (disch := omega) only [u0_, c64, h0, go_sem, reduceCtorEq, ↓reduceIte]
  exact bz_ (by rw [aH_, if_pos h0])
 ·simp (disch := omega) only [u0_, c64, h0, go_sem, reduceCtorEq, ↓reduceIte]
  have hL := pP_ k.toNat (by omega)
  refine aP_ (fun n t h => ∃ (u : Nat) (out : List UInt8), t 0 = .val (.int .i64 u) ∧ t 3 = .val (.string (txt out)) ∧ u = n ∧ u ≤ 4611686018427387904 ∧ cg_ k.toNat = cg_ u ++ out) k.toNat ⟨k.toNat, [], by simp [upd, f2_]; omega, rfl, rfl, by omega, by simp⟩ ?_
  rintro J hJ n t h ⟨u, out, t0, t3, rfl, hu, hS⟩
  by_cases hz : 0 < u
  ·have hm := rl_ u (by omega)
   have hlen := congrArg List.length hS
   simp only [la_] at hlen
   have hl1 : ([UInt8.ofNat (48 + u % 10)] : List UInt8).length + out.length ≤ 9223372036854775807 := by simp only [lc_, ln_]; omega
   have e1 : ((u : Int) % 10).toNat = u % 10 := by omega
   have e2 : (48 + (u : Int) % 10).toNat = 48 + u % 10 := by omega
   have e3 : ((u : Int) / 10) = ((u / 10 : Nat) : Int) := by omega
   simp (disch := omega) only [t0, t3, hz, e2, e3, jW_ _ _ _ hl1, go_sem, reduceEqDiff, reduceCtorEq, ↓reduceIte]
   exact ⟨u / 10, by omega, hJ _ _ _ ⟨u / 10, UInt8.ofNat (48 + u % 10) :: out, by simp [upd], by simp [upd], rfl, by omega, by rw [hS, hm, append_assoc]; rfl⟩⟩
  ·have hz' : u = 0 := by omega
   subst hz'
   have hlen := congrArg List.length hS
   simp only [la_] at hlen
   have hl2 : ([109] : List UInt8).length + out.length ≤ 9223372036854775807 := by simp only [lc_, ln_]; omega
   simp (disch := omega) only [t0, t3, jW_ _ _ _ hl2, go_sem, reduceEqDiff, Int.reduceLT, ↓reduceIte]
   exact bz_ (by rw [aH_, if_neg h0, hS]; rfl)
def c55 : LC :=
 .q [.o [.ki 4 0], .q [.o [.ki 5 0], .block 0 (.loop (.q [.q [.o [.m 6 5, .m 7 0, .ll 8 7, .bb 9 .lss false 6 8], .k 9 .skip (.exit 0)], .block 1 (.q [.o [.m 12 0, .m 13 5, .m 14 1, .c1 15 64 14, .ia 16 1 12 13, .st 1 16
 15], .o [.m 17 1, .bk 18 .add false 17 1, .m 1 18]]), .o [.m 10 5, .bk 11 .add false 10 1, .m 5 11]]))], .o [.m 19 1, .m 4 19], .ret]
def vY_ : LF := ⟨2, 20, c55, [.tmp 4]⟩
theorem xF_ : au_ prog Tryz.f55 vY_ := ah_
def c66 : LC :=
 .q [.o [.ki 4 0], .q [.o [.ki 5 0], .block 0 (.loop (.q [.q [.o [.m 6 5, .m 7 0, .ll 8 7, .bb 9 .lss false 6 8], .k 9 .skip (.exit 0)], .block 1 (.q [.q [.dops [.m 12 0, .m 13 5, .ia 14 1 12 13, .ln 15 14, .m 16 1, .c1
 17 64 16, .bb 18 .neq false 15 17], .k 18 (.q [.o [.s 4 (.mov (.const (.int .i64 (-1))))], .ret]) .skip], .o [.m 19 1, .bk 20 .add false 19 1, .m 1 20]]), .o [.m 10 5, .bk 11 .add false 10 1, .m 5 11]]))], .o [.m 21 1,
 .m 4 21], .ret]
def CD_ : LF := ⟨2, 22, c66, [.tmp 4]⟩
theorem D1_ : au_ prog Tryz.f66 CD_ := ah_
def c53 : LC :=
 .q [.o [.ki 4 0], .q [.o [.ki 5 0], .block 0 (.loop (.q [.q [.o [.m 6 5, .m 7 0, .ll 8 7, .bb 9 .lss false 6 8], .k 9 .skip (.exit 0)], .block 1 (.q [.o [.m 12 0, .m 13 5, .m 14 1, .c1 15 64 14, .ia 16 3 12 13, .fa 17 0
 16, .st 1 17 15], .o [.m 18 1, .bk 19 .add false 18 1, .m 1 19], .o [.m 20 0, .m 21 5, .ia 22 3 20 21, .fa 23 1 22, .ln 24 23, .m 25 1, .c2 26 55 24 25, .m 1 26], .o [.m 27 0, .m 28 5, .m 29 1, .c1 30 64 29, .ia 31 3 27
 28, .fa 32 2 31, .st 1 32 30], .o [.m 33 1, .bk 34 .add false 33 1, .m 1 34]]), .o [.m 10 5, .bk 11 .add false 10 1, .m 5 11]]))], .o [.m 35 1, .m 4 35], .ret]
def wd_ : LF := ⟨2, 36, c53, [.tmp 4]⟩
theorem ww_ : au_ prog Tryz.f53 wd_ := ah_
def c65 : LC :=
 .q [.o [.ki 4 0], .q [.o [.ki 5 0], .block 0 (.loop (.q [.q [.o [.m 6 5, .m 7 0, .ll 8 7, .bb 9 .lss false 6 8], .k 9 .skip (.exit 0)], .block 1 (.q [.q [.dops [.m 12 0, .m 13 5, .ia 14 3 12 13, .fa 15 0 14, .ln 16 15,
 .m 17 1, .c1 18 64 17, .bb 19 .neq false 16 18], .k 19 (.q [.o [.s 4 (.mov (.const (.int .i64 (-1))))], .ret]) .skip], .o [.m 20 1, .bk 21 .add false 20 1, .m 1 21], .o [.m 22 0, .m 23 5, .ia 24 3 22 23, .fa 25 1 24, .ln
 26 25, .m 27 1, .c2 28 66 26 27, .m 1 28], .q [.o [.m 29 1, .bk 30 .lss false 29 0], .k 30 (.q [.o [.s 4 (.mov (.const (.int .i64 (-1))))], .ret]) .skip], .q [.dops [.m 31 0, .m 32 5, .ia 33 3 31 32, .fa 34 2 33, .ln 35
 34, .m 36 1, .c1 37 64 36, .bb 38 .neq false 35 37], .k 38 (.q [.o [.s 4 (.mov (.const (.int .i64 (-1))))], .ret]) .skip], .o [.m 39 1, .bk 40 .add false 39 1, .m 1 40]]), .o [.m 10 5, .bk 11 .add false 10 1, .m 5
 11]]))], .o [.m 41 1, .m 4 41], .ret]
def zk_ : LF := ⟨2, 42, c65, [.tmp 4]⟩
theorem Do_ : au_ prog Tryz.f65 zk_ := ah_
def c16 : LC :=
 .q [.o [.bx 2 41 0, .ki 4 0], .o [.fa 5 0 2, .ln 6 5, .m 7 1, .c2 8 53 6 7, .m 1 8], .o [.m 9 1, .m 4 9], .ret]
def Bw_ : LF := ⟨2, 10, c16, [.tmp 4]⟩
theorem El_ : au_ prog Tryz.f16 Bw_ := ah_
def c24 : LC :=
 .q [.o [.bx 2 41 0, .ki 4 0], .o [.fa 5 0 2, .ln 6 5, .m 7 1, .c2 8 65 6 7, .m 1 8], .q [.o [.m 9 1, .bk 10 .lss false 9 0], .k 10 (.q [.o [.s 4 (.mov (.const (.int .i64 (-1))))], .ret]) .skip], .o [.m 11 1, .m 4 11],
 .ret]
def BW_ : LF := ⟨2, 12, c24, [.tmp 4]⟩
theorem Dz_ : au_ prog Tryz.f24 BW_ := ah_
def c54 : LC :=
 .q [.o [.ki 4 0], .q [.o [.ki 5 0], .block 0 (.loop (.q [.q [.o [.m 6 5, .m 7 0, .ll 8 7, .bb 9 .lss false 6 8], .k 9 .skip (.exit 0)], .block 1 (.q [.o [.m 12 0, .m 13 5, .m 14 1, .ia 15 5 12 13, .fa 16 0 15, .st 1 16
 14], .o [.m 17 1, .bk 18 .add false 17 1, .m 1 18], .o [.m 19 0, .m 20 5, .m 21 1, .c1 22 64 21, .ia 23 5 19 20, .fa 24 1 23, .st 1 24 22], .o [.m 25 1, .bk 26 .add false 25 1, .m 1 26], .o [.m 27 0, .m 28 5, .ia 29 5 27
 28, .fa 30 2 29, .ln 31 30, .m 32 1, .c2 33 55 31 32, .m 1 33], .o [.m 34 0, .m 35 5, .m 36 1, .c1 37 64 36, .ia 38 5 34 35, .fa 39 3 38, .st 1 39 37], .o [.m 40 1, .bk 41 .add false 40 1, .m 1 41], .o [.m 42 0, .m 43 5,
 .m 44 1, .ia 45 5 42 43, .fa 46 4 45, .st 1 46 44], .o [.m 47 1, .bk 48 .add false 47 1, .m 1 48]]), .o [.m 10 5, .bk 11 .add false 10 1, .m 5 11]]))], .o [.m 49 1, .m 4 49], .ret]
def wj_ : LF := ⟨2, 50, c54, [.tmp 4]⟩
theorem w8_ : au_ prog Tryz.f54 wj_ := ah_
def c56 : LC :=
 .q [.o [.ki 4 0], .q [.o [.ki 5 0], .block 0 (.loop (.q [.q [.o [.m 6 5, .m 7 0, .ll 8 7, .bb 9 .lss false 6 8], .k 9 .skip (.exit 0)], .block 1 (.q [.q [.o [.m 12 0, .m 13 5, .ia 14 5 12 13, .fa 15 0 14, .ln 16 15, .m
 17 1, .bb 18 .neq false 16 17], .k 18 (.q [.o [.s 4 (.mov (.const (.int .i64 (-1))))], .ret]) .skip], .o [.m 19 1, .bk 20 .add false 19 1, .m 1 20], .q [.dops [.m 21 0, .m 22 5, .ia 23 5 21 22, .fa 24 1 23, .ln 25 24, .m
 26 1, .c1 27 64 26, .bb 28 .neq false 25 27], .k 28 (.q [.o [.s 4 (.mov (.const (.int .i64 (-1))))], .ret]) .skip], .o [.m 29 1, .bk 30 .add false 29 1, .m 1 30], .o [.m 31 0, .m 32 5, .ia 33 5 31 32, .fa 34 2 33, .ln 35
 34, .m 36 1, .c2 37 66 35 36, .m 1 37], .q [.o [.m 38 1, .bk 39 .lss false 38 0], .k 39 (.q [.o [.s 4 (.mov (.const (.int .i64 (-1))))], .ret]) .skip], .q [.dops [.m 40 0, .m 41 5, .ia 42 5 40 41, .fa 43 3 42, .ln 44 43,
 .m 45 1, .c1 46 64 45, .bb 47 .neq false 44 46], .k 47 (.q [.o [.s 4 (.mov (.const (.int .i64 (-1))))], .ret]) .skip], .o [.m 48 1, .bk 49 .add false 48 1, .m 1 49], .q [.o [.m 50 0, .m 51 5, .ia 52 5 50 51, .fa 53 4 52,
 .ln 54 53, .m 55 1, .bb 56 .neq false 54 55], .k 56 (.q [.o [.s 4 (.mov (.const (.int .i64 (-1))))], .ret]) .skip], .o [.m 57 1, .bk 58 .add false 57 1, .m 1 58]]), .o [.m 10 5, .bk 11 .add false 10 1, .m 5 11]]))], .o
 [.m 59 1, .m 4 59], .ret]
def Cl_ : LF := ⟨2, 60, c56, [.tmp 4]⟩
theorem Dl_ : au_ prog Tryz.f56 Cl_ := ah_
def c17 : LC :=
 .q [.o [.bx 2 36 0, .ki 4 0], .o [.fa 5 2 2, .ln 6 5, .m 7 1, .c2 8 54 6 7, .m 1 8], .o [.m 9 1, .m 4 9], .ret]
def Ch_ : LF := ⟨2, 10, c17, [.tmp 4]⟩
theorem DI_ : au_ prog Tryz.f17 Ch_ := ah_
def c19 : LC :=
 .q [.o [.bx 2 36 0, .ki 4 0], .o [.fa 5 2 2, .ln 6 5, .m 7 1, .c2 8 56 6 7, .m 1 8], .q [.o [.m 9 1, .bk 10 .lss false 9 0], .k 10 (.q [.o [.s 4 (.mov (.const (.int .i64 (-1))))], .ret]) .skip], .o [.m 11 1, .m 4 11],
 .ret]
def CI_ : LF := ⟨2, 12, c19, [.tmp 4]⟩
theorem Dv_ : au_ prog Tryz.f19 CI_ := ah_
def c23 : LC :=
 .q [.o [.ki 4 0], .q [.o [.ki 5 0], .block 0 (.loop (.q [.q [.o [.m 6 5, .m 7 0, .ll 8 7, .bb 9 .lss false 6 8], .k 9 .skip (.exit 0)], .block 1 (.q [.o [.m 12 0, .m 13 5, .m 14 1, .ia 15 4 12 13, .fa 16 0 15, .st 1 16
 14], .o [.m 17 1, .bk 18 .add false 17 1, .m 1 18], .o [.m 19 0, .m 20 5, .m 21 1, .c1 22 64 21, .ia 23 4 19 20, .fa 24 1 23, .st 1 24 22], .o [.m 25 1, .bk 26 .add false 25 1, .m 1 26], .o [.m 27 0, .m 28 5, .ia 29 4 27
 28, .fa 30 2 29, .ln 31 30, .m 32 1, .c2 33 55 31 32, .m 1 33], .o [.m 34 0, .m 35 5, .m 36 1, .c1 37 64 36, .ia 38 4 34 35, .fa 39 3 38, .st 1 39 37], .o [.m 40 1, .bk 41 .add false 40 1, .m 1 41]]), .o [.m 10 5, .bk 11
 .add false 10 1, .m 5 11]]))], .o [.m 42 1, .m 4 42], .ret]
def u2_ : LF := ⟨2, 43, c23, [.tmp 4]⟩
theorem w4_ : au_ prog Tryz.f23 u2_ := ah_
def c25 : LC :=
 .q [.o [.ki 4 0], .q [.o [.ki 5 0], .block 0 (.loop (.q [.q [.o [.m 6 5, .m 7 0, .ll 8 7, .bb 9 .lss false 6 8], .k 9 .skip (.exit 0)], .block 1 (.q [.q [.o [.m 12 0, .m 13 5, .ia 14 4 12 13, .fa 15 0 14, .ln 16 15, .m
 17 1, .bb 18 .neq false 16 17], .k 18 (.q [.o [.s 4 (.mov (.const (.int .i64 (-1))))], .ret]) .skip], .o [.m 19 1, .bk 20 .add false 19 1, .m 1 20], .q [.dops [.m 21 0, .m 22 5, .ia 23 4 21 22, .fa 24 1 23, .ln 25 24, .m
 26 1, .c1 27 64 26, .bb 28 .neq false 25 27], .k 28 (.q [.o [.s 4 (.mov (.const (.int .i64 (-1))))], .ret]) .skip], .o [.m 29 1, .bk 30 .add false 29 1, .m 1 30], .o [.m 31 0, .m 32 5, .ia 33 4 31 32, .fa 34 2 33, .ln 35
 34, .m 36 1, .c2 37 66 35 36, .m 1 37], .q [.o [.m 38 1, .bk 39 .lss false 38 0], .k 39 (.q [.o [.s 4 (.mov (.const (.int .i64 (-1))))], .ret]) .skip], .q [.dops [.m 40 0, .m 41 5, .ia 42 4 40 41, .fa 43 3 42, .ln 44 43,
 .m 45 1, .c1 46 64 45, .bb 47 .neq false 44 46], .k 47 (.q [.o [.s 4 (.mov (.const (.int .i64 (-1))))], .ret]) .skip], .o [.m 48 1, .bk 49 .add false 48 1, .m 1 49]]), .o [.m 10 5, .bk 11 .add false 10 1, .m 5 11]]))],
 .o [.m 50 1, .m 4 50], .ret]
def CL_ : LF := ⟨2, 51, c25, [.tmp 4]⟩
theorem D2_ : au_ prog Tryz.f25 CL_ := ah_
theorem jr_ (xs : List ByteArray) : ∀ e ∈ xs.map am_, aR_ [.str] e := by
 intro e he
 obtain ⟨x, _, q⟩ := mem_map.1 he; subst q
 simp only [aR_, a4_, am_]
 exact ⟨_, _, rfl, ⟨_, rfl⟩, rfl⟩
theorem in_ (xs : List ByteArray) : a2_ (aV_ [.str]) (xs.map am_) ≤ 1 * (an_ ByteArray.size) xs := by
 refine hr_ (fun x => ?_) xs
 simp only [aV_, aZ_]
 omega
theorem iE_ (xs : List ByteArray) (hb : (an_ ByteArray.size) xs ≤ 1048576) : aQ_ prog 42 [.list 0 1 (xs.map am_)] (.list 0 1 (xs.map am_)) (fun a => ∃ l, a = .own l xs.length) := by
 have hx := Nat.le_trans (co_ (f := ByteArray.size) (xs := xs)) hb
 refine dn_ mixed Tryz.func42 xs_ rfl (fun h0 => ?_)
 simp (disch := omega) only [vr_, c42, go_sem, reduceCtorEq, ↓reduceIte]
 refine ⟨by omega, by omega, ?_⟩
 refine aP_ (fun n t h => ∃ k : Nat, t 0 = .list 0 1 (xs.map am_) ∧ t 3 = .own h0.length xs.length ∧ t 4 = .val (.int .i64 k) ∧ h = h0 ++ [⟨9, 1, bW_ (xs.map am_) [.val (.string (txt []))] k⟩] ∧ n = xs.length - k ∧ k ≤ xs.length) xs.length ?_ ?_
 ·exact ⟨0, rfl, rfl, rfl, by rw [hd_]; simp, rfl, Nat.zero_le _⟩
 ·rintro J hJ n t h ⟨k, t0, t3, t4, rfl, rfl, hk⟩
  have fl : (bW_ (xs.map am_) [.val (.string (txt []))] k).length = xs.length := by rw [fW_ _ _ (by simpa using hk)]; simp
  by_cases hlt : k < xs.length
  ·have fg : (bW_ (xs.map am_) [.val (.string (txt []))] k)[k]? = some [.val (.string (txt []))] := h3_ _ _ (by simpa using hlt)
   have fs := hi_ (xs.map am_) [.val (.string (txt []))] (am_ xs[k]) (k := k) (by rw [getElem?_map, getElem?_eq_getElem hlt]; rfl)
   simp (disch := omega) only [t0, t3, t4, hlt, fl, fg, ag_, go_sem, reduceEqDiff, reduceCtorEq, ↓reduceIte, aq_]
   try simp (disch := omega) only [fs, go_sem]
   exact ⟨xs.length - (k + 1), by omega, hJ _ _ _ ⟨k + 1, by simp [upd, t0], by simp [upd, t3], by simp [upd], by simp [], rfl, by omega⟩⟩
  ·simp (disch := omega) only [t0, t3, t4, hlt, fl, ag_, go_sem, reduceEqDiff, reduceCtorEq, ↓reduceIte]
   have ff : bW_ (xs.map am_) [.val (.string (txt []))] k = xs.map am_ := hZ_ _ _ (by simp; omega)
   rw [ff]
   refine ⟨_, rfl, (ay_.mkown (lo := h0.length + 1) (hi := h0.length + 1) (bn_.ofVals _ _ _ _ ?_) (by rw [b4_]; rfl) (by simp) (Nat.le_refl _) (Nat.lt_succ_self _) (Nat.le_refl _)).fresh, _, rfl⟩
   intro e he c hc
   obtain ⟨x, _, q⟩ := mem_map.1 he; subst q
   simp only [am_, mem_singleton] at hc
   exact ⟨_, hc⟩
theorem hb_ : gn_ prog 55 aH_ [.str] := by
 refine gn_.of ?_ ?_
 ·intro H k K hK
  refine bg_ mixed Tryz.func55 xF_ (bT_ rfl ?_)
  simp (disch := omega) only [vY_, c55, go_sem]
  refine aP_ (fun n t h => t 0 = .val (.slice none 0 0) ∧ t 1 = .val (.int .i64 k) ∧ t 5 = .val (.int .i64 0) ∧ h = H) 0 ⟨rfl, rfl, rfl, rfl⟩ ?_
  rintro J hJ n t h ⟨t0, t1, t5, rfl⟩
  simp (disch := omega) only [t0, t1, t5, go_sem, reduceEqDiff, reduceCtorEq, Int.reduceLT, ↓reduceIte]
  exact hK
 ·intro l cnt lo hi E rs0 f H0 k K hT hl nd hrl hlo hhi hsh hk hb hK
  refine bg_ mixed Tryz.func55 xF_ (bT_ rfl ?_)
  obtain ⟨seg, hseg⟩ : ∃ seg, seg = (rs0.take hi).drop lo := ⟨_, rfl⟩
  rw [← hseg] at hsh hb hK
  have hsl : hi - lo = seg.length := by rw [hseg, length_drop, length_take]; omega
  have hsn : seg.length ≤ a2_ (aV_ [.str]) seg := fx_ (c := aV_ [.str]) (fun e he => by have q := hsh e he; unfold aR_ at q; obtain ⟨c, r, rfl, _, _⟩ := q; simp only [aV_, aZ_]; omega)
  simp (disch := omega) only [vY_, c55, go_sem]
  refine aP_ (fun n t h => ∃ (i : Nat) (rs : List (List AV)), t 0 = .sub l cnt lo hi ∧ t 1 = .val (.int .i64 (aT_ (bb_ aH_ [.str]) (seg.take i) k).2) ∧ t 5 = .val (.int .i64 i) ∧ MT H0 l E 1 cnt f rs h ∧ n = seg.length - i ∧ i ≤ seg.length ∧ rs.length = cnt ∧ (rs.take hi).drop lo = (aT_ (bb_ aH_ [.str]) (seg.take i) k).1 ++ seg.drop i) seg.length ⟨0, rs0, rfl, rfl, rfl, hT, rfl, Nat.zero_le _, hrl, hseg.symm⟩ ?_
  rintro J hJ n t h ⟨i, rs, t0, t1, t5, hM, rfl, hi1, hrl1, hS⟩
  by_cases hlt : i < seg.length
  ·have hA : (aT_ (bb_ aH_ [.str]) (seg.take i) k).1.length = i := by rw [gF_, length_take]; omega
   have hst := kk_ (g := (bb_ aH_ [.str])) (k := k) hlt
   have hcn := ii_ (c := aV_ [.str]) hlt
   have hzz : (aT_ (bb_ aH_ [.str]) (seg.take i) k).2 = k + a2_ (aV_ [.str]) (seg.take i) := cW_ (fun x _ k => cU_ [.str] x k) k
   have hj4 : (lo : Int) + (i : Int) < (hi : Int) := by omega
   have hj2 := (lm_ hS hA hlt).2.1
   have hsd := hsh _ (getElem_mem hlt)
   have hss : ∀ d, ((rs.set (lo + i) d).take hi).drop lo = ((aT_ (bb_ aH_ [.str]) (seg.take i) k).1 ++ [d]) ++ seg.drop (i + 1) := fun d => ka_ hS hA hlt
   clear hS hA
   generalize seg[i] = d at hst hcn hj2 hsd
   obtain ⟨z, hz⟩ : ∃ z, z = (aT_ (bb_ aH_ [.str]) (seg.take i) k).2 := ⟨_, rfl⟩
   rw [← hz] at hst hzz t1
   have hz0 : 0 ≤ z := by omega
   unfold aR_ at hsd
   obtain ⟨_, d0, hd0, hc0, hsd⟩ := hsd
   unfold a4_ at hc0
   obtain ⟨s0, rfl⟩ := hc0
   unfold aR_ at hsd
   subst hsd
   subst hd0
   simp only [aV_, aZ_, Nat.add_zero] at hcn
   obtain ⟨m, es, e, f2, r1, r2, r3, ho_0, nd2, hl2, hfin⟩ := hM.elem hl nd hj2
   obtain ⟨q0, rfl, ho_1⟩ := ho_0.inv_val
   obtain ⟨rfl, rfl⟩ := ho_1.inv_nil
   have u1 : ∀ r, (h.set l r)[l]? = some r := fun r => getElem?_set_self (List.getElem?_eq_some_iff.1 r1).1
   have u2 : ∀ x, (es.set (lo + i) x)[lo + i]? = some x := fun x => getElem?_set_self (List.getElem?_eq_some_iff.1 r3).1
   simp (disch := omega) only [t0, t1, t5, hlt, hsl, hlo, r1, r2, go_sem, reduceEqDiff, reduceCtorEq, ↓reduceIte]
   refine aa_.call (ci_ (z) (by omega) (by omega) _) ?_
   simp (disch := omega) only [t1, t5, hj4, r1, r2, r3, go_sem, reduceEqDiff, ↓reduceIte]
   refine ⟨seg.length - (i + 1), by omega, hJ _ _ _ ⟨i + 1, rs.set (lo + i) _, by simp [upd, t0], by rw [hst]; simp [upd, bb_, bj_], by simp [upd], hfin _ _ _ ?_ (by first | exact u1 _ | exact u1 _) ?_ ?_, rfl, by omega, by simpa using hrl1, by rw [hst]; exact hss _⟩⟩
   ·simp only [ls_]
   ·intro x hx
    simp only [mem_cons, not_or] at hx
    try rw [getElem?_set_ne (Ne.symm hx.1)]
   ·simp only [bb_, bj_]
    exact ⟨_, (aL_.mk_val _ (aL_.mk_nil (Own _ (0 + 1))))⟩
  ·obtain ⟨m, es, r1, r2, _⟩ := hM.out
   have e1 : seg.take i = seg := take_of_length_le (by omega)
   have e2 : seg.drop i = [] := drop_eq_nil_of_le (by omega)
   rw [e1] at t1 hS
   rw [e2, append_nil] at hS
   simp (disch := omega) only [t0, t1, t5, hlt, hsl, hlo, r1, r2, go_sem, reduceEqDiff, reduceCtorEq, ↓reduceIte]
   exact hK _ rs hM hS
theorem gX_ (es : List (List AV)) (k : Int) (hsh : ∀ e ∈ es, aR_ [.str] e) (hk : 0 ≤ k) (hb : k + a2_ (aV_ [.str]) es ≤ 4611686018427387904) (h : List Row) : aa_ prog 66 [.list 0 1 es, .val (.int .i64 k)] h (.val (.int .i64 (bB_ (bC_ aH_ [.str]) es k))) := by
 refine aj_ mixed Tryz.func66 D1_ rfl rfl ?_ h
 have hsn : es.length ≤ a2_ (aV_ [.str]) es := fx_ (c := aV_ [.str]) (fun e he => by have q := hsh e he; unfold aR_ at q; obtain ⟨c, r, rfl, _, _⟩ := q; simp only [aV_, aZ_]; omega)
 simp (disch := omega) only [CD_, c66, go_sem, Int.reduceNeg]
 refine aP_ (fun n t h => ∃ (i : Nat) (z : Int), t 0 = .list 0 1 es ∧ t 1 = .val (.int .i64 z) ∧ t 5 = .val (.int .i64 i) ∧ n = es.length - i ∧ i ≤ es.length ∧ 0 ≤ z ∧ z + a2_ (aV_ [.str]) (es.drop i) ≤ 4611686018427387904 ∧ bB_ (bC_ aH_ [.str]) es k = bB_ (bC_ aH_ [.str]) (es.drop i) z) es.length ⟨0, k, rfl, rfl, rfl, rfl, Nat.zero_le _, hk, hb, rfl⟩ ?_
 rintro J hJ n t h ⟨i, z, t0, t1, t5, rfl, hi, hz0, hzb, hS⟩
 by_cases hlt : i < es.length
 ·rw [j1_ hlt] at hS
  rw [np_ hlt] at hzb
  have hsd := hsh _ (getElem_mem hlt)
  obtain ⟨d, hd⟩ : ∃ d, es[i] = d := ⟨_, rfl⟩
  rw [hd] at hS hzb hsd
  have hg : es[i]? = some d := by rw [getElem?_eq_getElem hlt, hd]
  unfold aR_ at hsd
  obtain ⟨_, d0, hd0, hc0, hsd⟩ := hsd
  unfold a4_ at hc0
  obtain ⟨s0, rfl⟩ := hc0
  unfold aR_ at hsd
  subst hsd
  subst hd0
  simp only [aV_, aZ_, Nat.add_zero] at hzb
  simp (disch := omega) only [t0, t1, t5, hlt, hg, go_sem, reduceEqDiff, reduceCtorEq, Int.reduceNeg, ↓reduceIte]
  refine aa_.q (ci_ (z) (by omega) (by omega) _) ?_
  by_cases q0 : s0 = aH_ (z)
  case neg =>
   simp (disch := omega) only [q0, go_sem, Int.reduceNeg, ↓reduceIte]
   exact aF_ (by rw [hS]; exact (cG_ (by simp (disch := first | assumption | omega) only [fl_])).symm)
  simp (disch := omega) only [t1, t5, q0, go_sem, reduceEqDiff, Int.reduceNeg, ↓reduceIte]
  exact ⟨es.length - (i + 1), by omega, hJ _ _ _ ⟨i + 1, z + 1, by simp [upd, t0], by simp [upd], by simp [upd], rfl, by omega, by omega, by omega, by rw [hS]; exact ho_ (by simp (disch := first | assumption | omega) only [dS_, j3_]) (by omega)⟩⟩
 ·simp (disch := omega) only [t0, t1, t5, hlt, go_sem, reduceEqDiff, reduceCtorEq, Int.reduceNeg, ↓reduceIte]
  exact aF_ (by rw [hS, drop_eq_nil_of_le (by omega)]; rfl)
theorem vw_ (x : ac_) : aR_ [.str, .list [.str], .str] (ac_.cells x) := by
 simp only [ac_.cells, aR_, a4_]
 exact ⟨_, _, rfl, ⟨_, rfl⟩, ⟨_, _, rfl, ⟨_, rfl, jr_ _⟩, ⟨_, _, rfl, ⟨_, rfl⟩, rfl⟩⟩⟩
theorem qa_ (x : ac_) (hb : ac_.sz x ≤ 1048576) : aQ_ prog 87 [.agg (ac_.cells x)] (.agg (ac_.cells x)) (fun a => ∃ l_Subs, a = .agg [.val (.string x.Name), .own l_Subs (x.Subs).length, .val (.string x.Value)]) := by
 have hsz : ac_.sz x = ByteArray.size x.Name + (an_ ByteArray.size) x.Subs + ByteArray.size x.Value := rfl
 refine dn_ mixed Tryz.func87 xy_ rfl (fun h0 => ?_)
 simp (disch := omega) only [vc_, c87, ac_.cells, go_sem, reduceEqDiff, Nat.reduceAdd, reduceLeDiff, ↓reduceIte]
 refine iE_ x.Subs (by omega) _ _ (fun av1 hn1 hf1 hq1 => ?_)
 obtain ⟨l_Subs, rfl⟩ := hq1
 simp (disch := omega) only [go_sem, reduceEqDiff, Nat.reduceAdd, reduceLeDiff, ↓reduceIte, cF_]
 exact ⟨_, rfl, iY_ (ak_.val _ (ak_.cons ((hf1.b.keep fun l q1 q2 => r3_ (t := []) (by simp) q1 q2).widen (by first | omega | (simp; done) | (simp; omega)) (Nat.le_refl _)) (ak_.val _ (ak_.nil _ _ _)) ⟨(by first | omega | (simp; done) | (simp; omega)), (by first | omega | (simp; done) | (simp; omega))⟩)), l_Subs, rfl⟩
theorem t3_ (xs : List ac_) : ∀ e ∈ xs.map ac_.cells, aR_ [.str, .list [.str], .str] e := by
 intro e he
 obtain ⟨x, _, q⟩ := mem_map.1 he; subst q
 exact vw_ x
theorem tg_ (xs : List ac_) : a2_ (aV_ [.str, .list [.str], .str]) (xs.map ac_.cells) ≤ 3 * (an_ ac_.sz) xs := by
 refine hr_ (fun x => ?_) xs
 have c0 := in_ (x.Subs)
 have hsz0 : ∀ y : ac_, ac_.sz y = ByteArray.size y.Name + (an_ ByteArray.size) y.Subs + ByteArray.size y.Value := fun _ => rfl
 simp only [hsz0] at *
 simp only [ac_.cells, aV_, aZ_]
 omega
theorem o8_ (xs : List ac_) (hb : (an_ ac_.sz) xs ≤ 1048576) : aQ_ prog 40 [.list 0 3 (xs.map ac_.cells)] (.list 0 3 (xs.map ac_.cells)) (fun a => ∃ l, a = .own l xs.length) := by
 have hx := Nat.le_trans (co_ (f := ac_.sz) (xs := xs)) hb
 refine dn_ mixed Tryz.func40 w1_ rfl (fun h0 => ?_)
 simp (disch := omega) only [u8_, c40, go_sem, reduceCtorEq, ↓reduceIte]
 refine ⟨by omega, by omega, ?_⟩
 refine aP_ (fun n t h => ∃ (k : Nat) (done : List (List AV)) (rest : List Row), t 0 = .list 0 3 (xs.map ac_.cells) ∧ t 3 = .own h0.length xs.length ∧ t 4 = .val (.int .i64 k) ∧ h = h0 ++ ⟨93, 3, done ++ List.replicate (xs.length - k) ([.val (.string (txt [])), .val (.slice none 0 0), .val (.string (txt []))] : List AV)⟩ :: rest ∧ n = xs.length - k ∧ k ≤ xs.length ∧ done.length = k ∧ bn_ (h0.length + 1) h.length h done ((xs.take k).map ac_.cells)) xs.length ?_ ?_
 ·exact ⟨0, [], [], rfl, rfl, rfl, by simp, rfl, Nat.zero_le _, rfl, .nil _ _ _⟩
 ·rintro J hJ n t h ⟨k, done, rest, t0, t3, t4, rfl, rfl, hk, hd, hF⟩
  have fl : (done ++ List.replicate (xs.length - k) ([.val (.string (txt [])), .val (.slice none 0 0), .val (.string (txt []))] : List AV)).length = xs.length := by simp; omega
  by_cases hlt : k < xs.length
  ·have e1 : xs.length - k = (xs.length - (k + 1)) + 1 := by omega
   have fg : (done ++ List.replicate (xs.length - k) ([.val (.string (txt [])), .val (.slice none 0 0), .val (.string (txt []))] : List AV))[k]? = some [.val (.string (txt [])), .val (.slice none 0 0), .val (.string (txt []))] := by rw [getElem?_append_right (by omega), hd, Nat.sub_self, e1]; rfl
   have fs : ∀ c : List AV, (done ++ List.replicate (xs.length - k) ([.val (.string (txt [])), .val (.slice none 0 0), .val (.string (txt []))] : List AV)).set k c = (done ++ [c]) ++ List.replicate (xs.length - (k + 1)) ([.val (.string (txt [])), .val (.slice none 0 0), .val (.string (txt []))] : List AV) := by
    intro c; rw [set_append_right _ _ (by omega), hd, Nat.sub_self, e1, replicate_succ, set_cons_zero, append_assoc]; rfl
   simp (disch := omega) only [t0, t3, t4, hlt, ac_.cells, ag_, go_sem, reduceEqDiff, Nat.reduceAdd, reduceCtorEq, ↓reduceIte]
   refine qa_ xs[k] (by have := bP_ (f := ac_.sz) (getElem_mem hlt); omega) _ _ (fun av hn hf hq => ?_)
   obtain ⟨l_Subs, rfl⟩ := hq
   simp (disch := omega) only [t4, hlt, fl, fg, fs, go_sem, reduceEqDiff, Nat.reduceAdd, ↓reduceIte, aq_]
   refine ⟨xs.length - (k + 1), by omega, hJ _ _ _ ⟨k + 1, done ++ [[.val (.string xs[k].Name), .own l_Subs (xs[k].Subs).length, .val (.string xs[k].Value)]], rest ++ hn, by simp [upd, t0], by simp [upd, t3], by simp [upd], by simp, rfl, by omega, by simp [hd], ?_⟩⟩
   rw [take_succ_eq_append_getElem hlt, map_append]
   have hz := jf_ (r' := ⟨93, 3, (done ++ [[.val (.string xs[k].Name), .own l_Subs (xs[k].Subs).length, .val (.string xs[k].Value)]]) ++ List.replicate (xs.length - (k + 1)) ([.val (.string (txt [])), .val (.slice none 0 0), .val (.string (txt []))] : List AV)⟩) hF hf
   first | exact hz | simpa using hz
  ·simp (disch := omega) only [t0, t3, t4, hlt, ag_, go_sem, reduceEqDiff, reduceCtorEq, ↓reduceIte]
   have e1 : xs.length - k = 0 := by omega
   rw [e1, replicate_zero, append_nil, take_of_length_le (by omega)] at hF
   rw [e1, replicate_zero, append_nil]
   exact ⟨_, rfl, nk_ hF (by omega), _, rfl⟩
theorem qb_ : gn_ prog 53 aH_ [.str, .list [.str], .str] := by
 refine gn_.of ?_ ?_
 ·intro H k K hK
  refine bg_ mixed Tryz.func53 ww_ (bT_ rfl ?_)
  simp (disch := omega) only [wd_, c53, go_sem]
  refine aP_ (fun n t h => t 0 = .val (.slice none 0 0) ∧ t 1 = .val (.int .i64 k) ∧ t 5 = .val (.int .i64 0) ∧ h = H) 0 ⟨rfl, rfl, rfl, rfl⟩ ?_
  rintro J hJ n t h ⟨t0, t1, t5, rfl⟩
  simp (disch := omega) only [t0, t1, t5, go_sem, reduceEqDiff, reduceCtorEq, Int.reduceLT, ↓reduceIte]
  exact hK
 ·intro l cnt lo hi E rs0 f H0 k K hT hl nd hrl hlo hhi hsh hk hb hK
  refine bg_ mixed Tryz.func53 ww_ (bT_ rfl ?_)
  obtain ⟨seg, hseg⟩ : ∃ seg, seg = (rs0.take hi).drop lo := ⟨_, rfl⟩
  rw [← hseg] at hsh hb hK
  have hsl : hi - lo = seg.length := by rw [hseg, length_drop, length_take]; omega
  have hsn : seg.length ≤ a2_ (aV_ [.str, .list [.str], .str]) seg := fx_ (c := aV_ [.str, .list [.str], .str]) (fun e he => by have q := hsh e he; unfold aR_ at q; obtain ⟨c, r, rfl, _, _⟩ := q; simp only [aV_, aZ_]; omega)
  simp (disch := omega) only [wd_, c53, go_sem]
  refine aP_ (fun n t h => ∃ (i : Nat) (rs : List (List AV)), t 0 = .sub l cnt lo hi ∧ t 1 = .val (.int .i64 (aT_ (bb_ aH_ [.str, .list [.str], .str]) (seg.take i) k).2) ∧ t 5 = .val (.int .i64 i) ∧ MT H0 l E 3 cnt f rs h ∧ n = seg.length - i ∧ i ≤ seg.length ∧ rs.length = cnt ∧ (rs.take hi).drop lo = (aT_ (bb_ aH_ [.str, .list [.str], .str]) (seg.take i) k).1 ++ seg.drop i) seg.length ⟨0, rs0, rfl, rfl, rfl, hT, rfl, Nat.zero_le _, hrl, hseg.symm⟩ ?_
  rintro J hJ n t h ⟨i, rs, t0, t1, t5, hM, rfl, hi1, hrl1, hS⟩
  by_cases hlt : i < seg.length
  ·have hA : (aT_ (bb_ aH_ [.str, .list [.str], .str]) (seg.take i) k).1.length = i := by rw [gF_, length_take]; omega
   have hst := kk_ (g := (bb_ aH_ [.str, .list [.str], .str])) (k := k) hlt
   have hcn := ii_ (c := aV_ [.str, .list [.str], .str]) hlt
   have hzz : (aT_ (bb_ aH_ [.str, .list [.str], .str]) (seg.take i) k).2 = k + a2_ (aV_ [.str, .list [.str], .str]) (seg.take i) := cW_ (fun x _ k => cU_ [.str, .list [.str], .str] x k) k
   have hj4 : (lo : Int) + (i : Int) < (hi : Int) := by omega
   have hj2 := (lm_ hS hA hlt).2.1
   have hsd := hsh _ (getElem_mem hlt)
   have hss : ∀ d, ((rs.set (lo + i) d).take hi).drop lo = ((aT_ (bb_ aH_ [.str, .list [.str], .str]) (seg.take i) k).1 ++ [d]) ++ seg.drop (i + 1) := fun d => ka_ hS hA hlt
   clear hS hA
   generalize seg[i] = d at hst hcn hj2 hsd
   obtain ⟨z, hz⟩ : ∃ z, z = (aT_ (bb_ aH_ [.str, .list [.str], .str]) (seg.take i) k).2 := ⟨_, rfl⟩
   rw [← hz] at hst hzz t1
   have hz0 : 0 ≤ z := by omega
   unfold aR_ at hsd
   obtain ⟨_, d0, hd0, hc0, hsd⟩ := hsd
   unfold a4_ at hc0
   obtain ⟨s0, rfl⟩ := hc0
   unfold aR_ at hsd
   obtain ⟨_, d1, hd1, hc1, hsd⟩ := hsd
   unfold a4_ at hc1
   obtain ⟨e1, rfl, hc1⟩ := hc1
   unfold aR_ at hsd
   obtain ⟨_, d2, hd2, hc2, hsd⟩ := hsd
   unfold a4_ at hc2
   obtain ⟨s2, rfl⟩ := hc2
   unfold aR_ at hsd
   subst hsd
   subst hd2
   subst hd1
   subst hd0
   simp only [aV_, aZ_, Nat.add_zero] at hcn
   obtain ⟨m, es, e, f2, r1, r2, r3, ho_0, nd2, hl2, hfin⟩ := hM.elem hl nd hj2
   obtain ⟨q0, rfl, ho_1⟩ := ho_0.inv_val
   obtain ⟨c1, q1, g1, w1, rfl, rfl, hw1, ho_2⟩ := ho_1.inv_cons
   obtain ⟨q2, rfl, ho_3⟩ := ho_2.inv_val
   obtain ⟨rfl, rfl⟩ := ho_3.inv_nil
   simp only [append_nil] at nd2 hl2
   have nd_1 : g1.Nodup := by first | exact nd2 | exact nd2.1 | exact nd2.2.1 | (simp_all; done)
   have hl_1 : l ∉ g1 := fun q => hl2 (by simp [q])
   have u1 : ∀ r, (h.set l r)[l]? = some r := fun r => getElem?_set_self (List.getElem?_eq_some_iff.1 r1).1
   have u2 : ∀ x, (es.set (lo + i) x)[lo + i]? = some x := fun x => getElem?_set_self (List.getElem?_eq_some_iff.1 r3).1
   simp (disch := omega) only [t0, t1, t5, hlt, hsl, hlo, r1, r2, go_sem, reduceEqDiff, reduceCtorEq, ↓reduceIte]
   refine aa_.call (ci_ (z) (by omega) (by omega) _) ?_
   simp (disch := omega) only [t0, t1, t5, hj4, r1, r2, r3, u1, u2, ls_, go_sem, reduceEqDiff, Nat.reduceAdd, reduceLeDiff, reduceCtorEq, ↓reduceIte]
   refine hb_ _ c1 e1 g1 _ (z + 1) _ (hw1.keep fun x hx => ?_) nd_1 hc1 (by omega) (by omega) (fun H1 m1 x1 y1 v1 => ?_)
   ·first | rfl | exact getElem?_set_ne (by rintro rfl; exact hl_1 hx)
   have hq1 : (aT_ (bb_ aH_ [.str]) e1 (z + 1)).2 = z + 1 + (a2_ (aV_ [.str]) e1 : Nat) := cW_ (fun x _ k => cU_ _ x k) _
   have p1 := (y1 l hl_1).trans (by first | exact u1 _ | exact r1)
   have un1 : ∀ r, (H1.set l r)[l]? = some r := fun r => getElem?_set_self (List.getElem?_eq_some_iff.1 p1).1
   simp (disch := omega) only [t0, t5, go_sem, reduceEqDiff, reduceCtorEq, ↓reduceIte]
   refine aa_.call (ci_ ((aT_ (bb_ aH_ [.str]) e1 (z + 1)).2) (by omega) (by omega) _) ?_
   simp (disch := omega) only [t5, hj4, r2, u2, ls_, set_set, p1, go_sem, reduceEqDiff, Nat.reduceAdd, ↓reduceIte]
   refine ⟨seg.length - (i + 1), by omega, hJ _ _ _ ⟨i + 1, rs.set (lo + i) _, by simp [upd, t0], by rw [hst]; simp [upd, bb_, bj_], by simp [upd], hfin _ _ _ ?_ (by first | exact un1 _ | exact p1) ?_ ?_, rfl, by omega, by simpa using hrl1, by rw [hst]; exact hss _⟩⟩
   ·simp only [ls_, x1]
   ·intro x hx
    simp only [mem_cons, not_or, append_nil] at hx
    try rw [getElem?_set_ne (Ne.symm hx.1)]
    rw [y1 x (by intro hq; first | (simp_all; done) | exact nd.2.2 _ hq _ hx rfl | exact nd.2.2 _ hx _ hq rfl | grind)]
    try rw [getElem?_set_ne (Ne.symm hx.1)]
   ·simp only [bb_, bj_]
    exact ⟨_, (aL_.mk_val _ (aL_.mk_list (v1.keep fun x hx => by first | rfl | ((try rw [getElem?_set_ne (by rintro rfl; exact hl_1 hx)]))) (aL_.mk_val _ (aL_.mk_nil (Own _ (0 + 1))))))⟩
  ·obtain ⟨m, es, r1, r2, _⟩ := hM.out
   have e1 : seg.take i = seg := take_of_length_le (by omega)
   have e2 : seg.drop i = [] := drop_eq_nil_of_le (by omega)
   rw [e1] at t1 hS
   rw [e2, append_nil] at hS
   simp (disch := omega) only [t0, t1, t5, hlt, hsl, hlo, r1, r2, go_sem, reduceEqDiff, reduceCtorEq, ↓reduceIte]
   exact hK _ rs hM hS
theorem pr_ (es : List (List AV)) (k : Int) (hsh : ∀ e ∈ es, aR_ [.str, .list [.str], .str] e) (hk : 0 ≤ k) (hb : k + a2_ (aV_ [.str, .list [.str], .str]) es ≤ 4611686018427387904) (h : List Row) : aa_ prog 65 [.list 0 3 es, .val (.int .i64 k)] h (.val (.int .i64 (bB_ (bC_ aH_ [.str, .list [.str], .str]) es k))) := by
 refine aj_ mixed Tryz.func65 Do_ rfl rfl ?_ h
 have hsn : es.length ≤ a2_ (aV_ [.str, .list [.str], .str]) es := fx_ (c := aV_ [.str, .list [.str], .str]) (fun e he => by have q := hsh e he; unfold aR_ at q; obtain ⟨c, r, rfl, _, _⟩ := q; simp only [aV_, aZ_]; omega)
 simp (disch := omega) only [zk_, c65, go_sem, Int.reduceNeg]
 refine aP_ (fun n t h => ∃ (i : Nat) (z : Int), t 0 = .list 0 3 es ∧ t 1 = .val (.int .i64 z) ∧ t 5 = .val (.int .i64 i) ∧ n = es.length - i ∧ i ≤ es.length ∧ 0 ≤ z ∧ z + a2_ (aV_ [.str, .list [.str], .str]) (es.drop i) ≤ 4611686018427387904 ∧ bB_ (bC_ aH_ [.str, .list [.str], .str]) es k = bB_ (bC_ aH_ [.str, .list [.str], .str]) (es.drop i) z) es.length ⟨0, k, rfl, rfl, rfl, rfl, Nat.zero_le _, hk, hb, rfl⟩ ?_
 rintro J hJ n t h ⟨i, z, t0, t1, t5, rfl, hi, hz0, hzb, hS⟩
 by_cases hlt : i < es.length
 ·rw [j1_ hlt] at hS
  rw [np_ hlt] at hzb
  have hsd := hsh _ (getElem_mem hlt)
  obtain ⟨d, hd⟩ : ∃ d, es[i] = d := ⟨_, rfl⟩
  rw [hd] at hS hzb hsd
  have hg : es[i]? = some d := by rw [getElem?_eq_getElem hlt, hd]
  unfold aR_ at hsd
  obtain ⟨_, d0, hd0, hc0, hsd⟩ := hsd
  unfold a4_ at hc0
  obtain ⟨s0, rfl⟩ := hc0
  unfold aR_ at hsd
  obtain ⟨_, d1, hd1, hc1, hsd⟩ := hsd
  unfold a4_ at hc1
  obtain ⟨e1, rfl, hc1⟩ := hc1
  unfold aR_ at hsd
  obtain ⟨_, d2, hd2, hc2, hsd⟩ := hsd
  unfold a4_ at hc2
  obtain ⟨s2, rfl⟩ := hc2
  unfold aR_ at hsd
  subst hsd
  subst hd2
  subst hd1
  subst hd0
  simp only [aV_, aZ_, Nat.add_zero] at hzb
  simp (disch := omega) only [t0, t1, t5, hlt, hg, go_sem, reduceEqDiff, Nat.reduceAdd, reduceCtorEq, Int.reduceNeg, ↓reduceIte]
  refine aa_.q (ci_ (z) (by omega) (by omega) _) ?_
  by_cases q0 : s0 = aH_ (z)
  case neg =>
   simp (disch := omega) only [q0, go_sem, Int.reduceNeg, ↓reduceIte]
   exact aF_ (by rw [hS]; exact (cG_ (by simp (disch := first | assumption | omega) only [fl_])).symm)
  simp (disch := omega) only [t0, t1, t5, hg, q0, go_sem, reduceEqDiff, Nat.reduceAdd, reduceLeDiff, reduceCtorEq, Int.reduceNeg, ↓reduceIte]
  refine aa_.call (gX_ e1 (z + 1) hc1 (by omega) (by omega) _) ?_
  have hq1 := g8_ (c := aV_ [.str]) (fun e he k hk => g9_ (mt := aH_) [.str] e k (hc1 e he) hk) (z + 1) (by omega)
  by_cases q1 : (bB_ (bC_ aH_ [.str]) e1 (z + 1)) < 0
  ·simp (disch := omega) only [q1, go_sem, Int.reduceNeg, ↓reduceIte]
   exact aF_ (by rw [hS]; exact (cG_ (by simp (disch := first | assumption | omega) only [dS_, j0_])).symm)
  simp (disch := omega) only [t0, t5, hg, q1, go_sem, reduceEqDiff, Nat.reduceAdd, reduceLeDiff, reduceCtorEq, Int.reduceNeg, ↓reduceIte]
  refine aa_.q (ci_ ((bB_ (bC_ aH_ [.str]) e1 (z + 1))) (by omega) (by omega) _) ?_
  by_cases q2 : s2 = aH_ ((bB_ (bC_ aH_ [.str]) e1 (z + 1)))
  case neg =>
   simp (disch := omega) only [q2, go_sem, Int.reduceNeg, ↓reduceIte]
   exact aF_ (by rw [hS]; exact (cG_ (by simp (disch := first | assumption | omega) only [dS_, fl_, fk_])).symm)
  simp (disch := omega) only [t5, q2, go_sem, reduceEqDiff, Int.reduceNeg, ↓reduceIte]
  exact ⟨es.length - (i + 1), by omega, hJ _ _ _ ⟨i + 1, (bB_ (bC_ aH_ [.str]) e1 (z + 1)) + 1, by simp [upd, t0], by simp [upd], by simp [upd], rfl, by omega, by omega, by omega, by rw [hS]; exact ho_ (by simp (disch := first | assumption | omega) only [dS_, fk_, j3_]) (by omega)⟩⟩
 ·simp (disch := omega) only [t0, t1, t5, hlt, go_sem, reduceEqDiff, reduceCtorEq, Int.reduceNeg, ↓reduceIte]
  exact aF_ (by rw [hS, drop_eq_nil_of_le (by omega)]; rfl)
theorem pS_ (x : ad_) : aR_ [.list [.str, .list [.str], .str]] (ad_.cells x) := by
 simp only [ad_.cells, aR_, a4_]
 exact ⟨_, _, rfl, ⟨_, rfl, t3_ _⟩, rfl⟩
theorem kP_ (x : ad_) (hb : ad_.sz x ≤ 1048576) : bF_ [.list [.str, .list [.str], .str]] (ad_.cells x) ≤ 3 * 1048576 := by
 have c0 := tg_ (x.Nodes)
 have hsz0 : ∀ y : ad_, ad_.sz y = (an_ ac_.sz) y.Nodes := fun _ => rfl
 simp only [hsz0] at *
 simp only [ad_.cells, bF_, aZ_]
 omega
theorem qw_ (x : ad_) (hb : ad_.sz x ≤ 1048576) : aQ_ prog 9 [.agg (ad_.cells x)] (.agg (ad_.cells x)) (fun a => ∃ l_Nodes, a = .agg [.own l_Nodes (x.Nodes).length]) := by
 have hsz : ad_.sz x = (an_ ac_.sz) x.Nodes := rfl
 refine dn_ mixed Tryz.func9 Am_ rfl (fun h0 => ?_)
 simp (disch := omega) only [lf9, c9, ad_.cells, go_sem, reduceEqDiff, Nat.reduceAdd, ↓reduceIte]
 refine o8_ x.Nodes (by omega) _ _ (fun av1 hn1 hf1 hq1 => ?_)
 obtain ⟨l_Nodes, rfl⟩ := hq1
 simp (disch := omega) only [go_sem, reduceEqDiff, ↓reduceIte, cF_]
 exact ⟨_, rfl, iY_ (ak_.cons ((hf1.b.keep fun l q1 q2 => r3_ (t := []) (by simp) q1 q2).widen (by first | omega | (simp; done) | (simp; omega)) (Nat.le_refl _)) (ak_.nil _ _ _) ⟨(by first | omega | (simp; done) | (simp; omega)), (by first | omega | (simp; done) | (simp; omega))⟩), l_Nodes, rfl⟩
theorem lT_ : ph_ prog 16 aH_ [.list [.str, .list [.str], .str]] := by
 intro m cs ds f H k K ho_0 nd hsh hk hb hK
 unfold aR_ at hsh
 obtain ⟨_, d0, hd0, hc0, hsh⟩ := hsh
 unfold a4_ at hc0
 obtain ⟨e0, rfl, hc0⟩ := hc0
 unfold aR_ at hsh
 subst hsh
 subst hd0
 simp only [bF_, aZ_, Nat.add_zero] at hb
 have hlt : ∀ x ∈ f, x < H.length := fun x hx => by
  obtain ⟨row, _, _, _, q, _⟩ := aL_.inner (fun a r f ho => Own.inner ho) ho_0 x hx
  exact (List.getElem?_eq_some_iff.1 q).1
 obtain ⟨c0, q0, g0, w0, rfl, rfl, hw0, ho_1⟩ := ho_0.inv_cons
 obtain ⟨rfl, rfl⟩ := ho_1.inv_nil
 simp only [append_nil] at nd hlt
 have nd_0 : g0.Nodup := by first | exact nd | exact nd.1 | exact nd.2.1 | (simp_all; done)
 have hl_0 : ∀ x ∈ g0, x < H.length := fun x hx => hlt x (by simp [hx])
 have cc0 := hw0.cell_list
 simp only [AV.cell, Value.oneCell'] at cc0
 refine bg_ mixed Tryz.func16 El_ (bT_ rfl ?_)
 simp (disch := omega) only [Bw_, c16, cc0, go_sem, reduceEqDiff, ↓reduceIte]
 refine qb_ _ c0 e0 g0 _ (k) _ (hw0.keep fun x hx => ?_) nd_0 hc0 (by omega) (by omega) (fun H1 m1 x1 y1 v1 => ?_)
 ·exact getElem?_append_left (hl_0 x hx)
 have hq0 : (aT_ (bb_ aH_ [.str, .list [.str], .str]) e0 (k)).2 = k + (a2_ (aV_ [.str, .list [.str], .str]) e0 : Nat) := cW_ (fun x _ k => cU_ _ x k) _
 have p1 := (y1 H.length (fun hq => by have := hl_0 _ hq; omega)).trans (b4_ _ _)
 simp (disch := omega) only [go_sem, ↓reduceIte]
 have hfr : ∀ x, x < H.length → x ∉ (g0) → H1[x]? = H[x]? := by
  intro x hx hxf
  try simp only [mem_append, not_or] at hxf
  rw [y1 x (by intro hq; first | (simp_all; done) | exact nd.2.2 _ hq _ hx rfl | exact nd.2.2 _ hx _ hq rfl | grind)]
  exact getElem?_append_left hx
 have hfin := hK H1 (by simp only [x1, la_]; omega) (fun x hx hxf => hfr x hx (by simpa using hxf)) (by simp only [ba_, bj_]; exact ⟨_, (aL_.mk_list (v1.keep fun x hx => by rfl) (aL_.mk_nil (Own _ (0 + 1))))⟩)
 simp only [ba_, bj_] at hfin
 exact hfin
theorem hk_ (ds : List AV) (k : Int) (hsh : aR_ [.list [.str, .list [.str], .str]] ds) (hp : ds.all AV.flat = true) (hk : 0 ≤ k) (hb : k + bF_ [.list [.str, .list [.str], .str]] ds ≤ 4611686018427387904) (h : List Row) : aa_ prog 24 [.agg ds, .val (.int .i64 k)] h (.val (.int .i64 (ep_ aH_ [.list [.str, .list [.str], .str]] ds k))) := by
 unfold aR_ at hsh
 obtain ⟨_, d0, hd0, hc0, hsh⟩ := hsh
 unfold a4_ at hc0
 obtain ⟨e0, rfl, hc0⟩ := hc0
 unfold aR_ at hsh
 subst hsh
 subst hd0
 refine aj_ mixed Tryz.func24 Dz_ rfl (by simp only [all_cons, all_nil, AV.plain, hp]; rfl) ?_ h
 simp only [bF_, aZ_, Nat.add_zero] at hb
 simp (disch := omega) only [BW_, c24, go_sem, reduceEqDiff, Nat.reduceAdd, Int.reduceNeg, ↓reduceIte]
 refine aa_.call (pr_ e0 (k) hc0 (by omega) (by omega) _) ?_
 have hq0 := g8_ (c := aV_ [.str, .list [.str], .str]) (fun e he k hk => g9_ (mt := aH_) [.str, .list [.str], .str] e k (hc0 e he) hk) (k) (by omega)
 by_cases q0 : (bB_ (bC_ aH_ [.str, .list [.str], .str]) e0 (k)) < 0
 ·simp (disch := omega) only [q0, go_sem, Int.reduceNeg, ↓reduceIte]
  exact aF_ (by simp only [ep_, bO_, *, if_true])
 simp (disch := omega) only [q0, go_sem, reduceEqDiff, Int.reduceNeg, ↓reduceIte]
 exact aF_ (by simp only [ep_, bO_, *, if_false])
theorem ue_ (x : ab_) : aR_ [.int, .str, .list [.str], .str, .int] (ab_.cells x) := by
 simp only [ab_.cells, aR_, a4_]
 exact ⟨_, _, rfl, ⟨_, rfl⟩, ⟨_, _, rfl, ⟨_, rfl⟩, ⟨_, _, rfl, ⟨_, rfl, jr_ _⟩, ⟨_, _, rfl, ⟨_, rfl⟩, ⟨_, _, rfl, ⟨_, rfl⟩, rfl⟩⟩⟩⟩⟩
theorem pa_ (x : ab_) (hb : ab_.sz x ≤ 1048576) : aQ_ prog 11 [.agg (ab_.cells x)] (.agg (ab_.cells x)) (fun a => ∃ l_Subs, a = .agg [.val (.int .i64 x.Kind), .val (.string x.Name), .own l_Subs (x.Subs).length, .val (.string x.Value), .val (.int .i64 x.N)]) := by
 have hsz : ab_.sz x = ByteArray.size x.Name + (an_ ByteArray.size) x.Subs + ByteArray.size x.Value := rfl
 refine dn_ mixed Tryz.func11 wB_ rfl (fun h0 => ?_)
 simp (disch := omega) only [vp_, c11, ab_.cells, go_sem, reduceEqDiff, Nat.reduceAdd, reduceLeDiff, ↓reduceIte]
 refine iE_ x.Subs (by omega) _ _ (fun av1 hn1 hf1 hq1 => ?_)
 obtain ⟨l_Subs, rfl⟩ := hq1
 simp (disch := omega) only [go_sem, reduceEqDiff, Nat.reduceAdd, reduceLeDiff, ↓reduceIte, cF_]
 exact ⟨_, rfl, iY_ (ak_.val _ (ak_.val _ (ak_.cons ((hf1.b.keep fun l q1 q2 => r3_ (t := []) (by simp) q1 q2).widen (by first | omega | (simp; done) | (simp; omega)) (Nat.le_refl _)) (ak_.val _ (ak_.val _ (ak_.nil _ _ _))) ⟨(by first | omega | (simp; done) | (simp; omega)), (by first | omega | (simp; done) | (simp; omega))⟩))), l_Subs, rfl⟩
theorem si_ (xs : List ab_) : ∀ e ∈ xs.map ab_.cells, aR_ [.int, .str, .list [.str], .str, .int] e := by
 intro e he
 obtain ⟨x, _, q⟩ := mem_map.1 he; subst q
 exact ue_ x
theorem rq_ (xs : List ab_) : a2_ (aV_ [.int, .str, .list [.str], .str, .int]) (xs.map ab_.cells) ≤ 5 * (an_ ab_.sz) xs := by
 refine hr_ (fun x => ?_) xs
 have c0 := in_ (x.Subs)
 have hsz0 : ∀ y : ab_, ab_.sz y = ByteArray.size y.Name + (an_ ByteArray.size) y.Subs + ByteArray.size y.Value := fun _ => rfl
 simp only [hsz0] at *
 simp only [ab_.cells, aV_, aZ_]
 omega
theorem nH_ (xs : List ab_) (hb : (an_ ab_.sz) xs ≤ 1048576) : aQ_ prog 41 [.list 0 5 (xs.map ab_.cells)] (.list 0 5 (xs.map ab_.cells)) (fun a => ∃ l, a = .own l xs.length) := by
 have hx := Nat.le_trans (co_ (f := ab_.sz) (xs := xs)) hb
 refine dn_ mixed Tryz.func41 wA_ rfl (fun h0 => ?_)
 simp (disch := omega) only [uQ_, c41, go_sem, reduceCtorEq, ↓reduceIte]
 refine ⟨by omega, by omega, ?_⟩
 refine aP_ (fun n t h => ∃ (k : Nat) (done : List (List AV)) (rest : List Row), t 0 = .list 0 5 (xs.map ab_.cells) ∧ t 3 = .own h0.length xs.length ∧ t 4 = .val (.int .i64 k) ∧ h = h0 ++ ⟨44, 5, done ++ List.replicate (xs.length - k) ([.val (.int .i64 0), .val (.string (txt [])), .val (.slice none 0 0), .val (.string (txt [])), .val (.int .i64 0)] : List AV)⟩ :: rest ∧ n = xs.length - k ∧ k ≤ xs.length ∧ done.length = k ∧ bn_ (h0.length + 1) h.length h done ((xs.take k).map ab_.cells)) xs.length ?_ ?_
 ·exact ⟨0, [], [], rfl, rfl, rfl, by simp, rfl, Nat.zero_le _, rfl, .nil _ _ _⟩
 ·rintro J hJ n t h ⟨k, done, rest, t0, t3, t4, rfl, rfl, hk, hd, hF⟩
  have fl : (done ++ List.replicate (xs.length - k) ([.val (.int .i64 0), .val (.string (txt [])), .val (.slice none 0 0), .val (.string (txt [])), .val (.int .i64 0)] : List AV)).length = xs.length := by simp; omega
  by_cases hlt : k < xs.length
  ·have e1 : xs.length - k = (xs.length - (k + 1)) + 1 := by omega
   have fg : (done ++ List.replicate (xs.length - k) ([.val (.int .i64 0), .val (.string (txt [])), .val (.slice none 0 0), .val (.string (txt [])), .val (.int .i64 0)] : List AV))[k]? = some [.val (.int .i64 0), .val (.string (txt [])), .val (.slice none 0 0), .val (.string (txt [])), .val (.int .i64 0)] := by rw [getElem?_append_right (by omega), hd, Nat.sub_self, e1]; rfl
   have fs : ∀ c : List AV, (done ++ List.replicate (xs.length - k) ([.val (.int .i64 0), .val (.string (txt [])), .val (.slice none 0 0), .val (.string (txt [])), .val (.int .i64 0)] : List AV)).set k c = (done ++ [c]) ++ List.replicate (xs.length - (k + 1)) ([.val (.int .i64 0), .val (.string (txt [])), .val (.slice none 0 0), .val (.string (txt [])), .val (.int .i64 0)] : List AV) := by
    intro c; rw [set_append_right _ _ (by omega), hd, Nat.sub_self, e1, replicate_succ, set_cons_zero, append_assoc]; rfl
   simp (disch := omega) only [t0, t3, t4, hlt, ab_.cells, ag_, go_sem, reduceEqDiff, Nat.reduceAdd, reduceCtorEq, ↓reduceIte]
   refine pa_ xs[k] (by have := bP_ (f := ab_.sz) (getElem_mem hlt); omega) _ _ (fun av hn hf hq => ?_)
   obtain ⟨l_Subs, rfl⟩ := hq
   simp (disch := omega) only [t4, hlt, fl, fg, fs, go_sem, reduceEqDiff, Nat.reduceAdd, ↓reduceIte, aq_]
   refine ⟨xs.length - (k + 1), by omega, hJ _ _ _ ⟨k + 1, done ++ [[.val (.int .i64 xs[k].Kind), .val (.string xs[k].Name), .own l_Subs (xs[k].Subs).length, .val (.string xs[k].Value), .val (.int .i64 xs[k].N)]], rest ++ hn, by simp [upd, t0], by simp [upd, t3], by simp [upd], by simp, rfl, by omega, by simp [hd], ?_⟩⟩
   rw [take_succ_eq_append_getElem hlt, map_append]
   have hz := jf_ (r' := ⟨44, 5, (done ++ [[.val (.int .i64 xs[k].Kind), .val (.string xs[k].Name), .own l_Subs (xs[k].Subs).length, .val (.string xs[k].Value), .val (.int .i64 xs[k].N)]]) ++ List.replicate (xs.length - (k + 1)) ([.val (.int .i64 0), .val (.string (txt [])), .val (.slice none 0 0), .val (.string (txt [])), .val (.int .i64 0)] : List AV)⟩) hF hf
   first | exact hz | simpa using hz
  ·simp (disch := omega) only [t0, t3, t4, hlt, ag_, go_sem, reduceEqDiff, reduceCtorEq, ↓reduceIte]
   have e1 : xs.length - k = 0 := by omega
   rw [e1, replicate_zero, append_nil, take_of_length_le (by omega)] at hF
   rw [e1, replicate_zero, append_nil]
   exact ⟨_, rfl, nk_ hF (by omega), _, rfl⟩
theorem oY_ : gn_ prog 54 aH_ [.int, .str, .list [.str], .str, .int] := by
 refine gn_.of ?_ ?_
 ·intro H k K hK
  refine bg_ mixed Tryz.func54 w8_ (bT_ rfl ?_)
  simp (disch := omega) only [wj_, c54, go_sem]
  refine aP_ (fun n t h => t 0 = .val (.slice none 0 0) ∧ t 1 = .val (.int .i64 k) ∧ t 5 = .val (.int .i64 0) ∧ h = H) 0 ⟨rfl, rfl, rfl, rfl⟩ ?_
  rintro J hJ n t h ⟨t0, t1, t5, rfl⟩
  simp (disch := omega) only [t0, t1, t5, go_sem, reduceEqDiff, reduceCtorEq, Int.reduceLT, ↓reduceIte]
  exact hK
 ·intro l cnt lo hi E rs0 f H0 k K hT hl nd hrl hlo hhi hsh hk hb hK
  refine bg_ mixed Tryz.func54 w8_ (bT_ rfl ?_)
  obtain ⟨seg, hseg⟩ : ∃ seg, seg = (rs0.take hi).drop lo := ⟨_, rfl⟩
  rw [← hseg] at hsh hb hK
  have hsl : hi - lo = seg.length := by rw [hseg, length_drop, length_take]; omega
  have hsn : seg.length ≤ a2_ (aV_ [.int, .str, .list [.str], .str, .int]) seg := fx_ (c := aV_ [.int, .str, .list [.str], .str, .int]) (fun e he => by have q := hsh e he; unfold aR_ at q; obtain ⟨c, r, rfl, _, _⟩ := q; simp only [aV_, aZ_]; omega)
  simp (disch := omega) only [wj_, c54, go_sem]
  refine aP_ (fun n t h => ∃ (i : Nat) (rs : List (List AV)), t 0 = .sub l cnt lo hi ∧ t 1 = .val (.int .i64 (aT_ (bb_ aH_ [.int, .str, .list [.str], .str, .int]) (seg.take i) k).2) ∧ t 5 = .val (.int .i64 i) ∧ MT H0 l E 5 cnt f rs h ∧ n = seg.length - i ∧ i ≤ seg.length ∧ rs.length = cnt ∧ (rs.take hi).drop lo = (aT_ (bb_ aH_ [.int, .str, .list [.str], .str, .int]) (seg.take i) k).1 ++ seg.drop i) seg.length ⟨0, rs0, rfl, rfl, rfl, hT, rfl, Nat.zero_le _, hrl, hseg.symm⟩ ?_
  rintro J hJ n t h ⟨i, rs, t0, t1, t5, hM, rfl, hi1, hrl1, hS⟩
  by_cases hlt : i < seg.length
  ·have hA : (aT_ (bb_ aH_ [.int, .str, .list [.str], .str, .int]) (seg.take i) k).1.length = i := by rw [gF_, length_take]; omega
   have hst := kk_ (g := (bb_ aH_ [.int, .str, .list [.str], .str, .int])) (k := k) hlt
   have hcn := ii_ (c := aV_ [.int, .str, .list [.str], .str, .int]) hlt
   have hzz : (aT_ (bb_ aH_ [.int, .str, .list [.str], .str, .int]) (seg.take i) k).2 = k + a2_ (aV_ [.int, .str, .list [.str], .str, .int]) (seg.take i) := cW_ (fun x _ k => cU_ [.int, .str, .list [.str], .str, .int] x k) k
   have hj4 : (lo : Int) + (i : Int) < (hi : Int) := by omega
   have hj2 := (lm_ hS hA hlt).2.1
   have hsd := hsh _ (getElem_mem hlt)
   have hss : ∀ d, ((rs.set (lo + i) d).take hi).drop lo = ((aT_ (bb_ aH_ [.int, .str, .list [.str], .str, .int]) (seg.take i) k).1 ++ [d]) ++ seg.drop (i + 1) := fun d => ka_ hS hA hlt
   clear hS hA
   generalize seg[i] = d at hst hcn hj2 hsd
   obtain ⟨z, hz⟩ : ∃ z, z = (aT_ (bb_ aH_ [.int, .str, .list [.str], .str, .int]) (seg.take i) k).2 := ⟨_, rfl⟩
   rw [← hz] at hst hzz t1
   have hz0 : 0 ≤ z := by omega
   unfold aR_ at hsd
   obtain ⟨_, d0, hd0, hc0, hsd⟩ := hsd
   unfold a4_ at hc0
   obtain ⟨n0, rfl⟩ := hc0
   unfold aR_ at hsd
   obtain ⟨_, d1, hd1, hc1, hsd⟩ := hsd
   unfold a4_ at hc1
   obtain ⟨s1, rfl⟩ := hc1
   unfold aR_ at hsd
   obtain ⟨_, d2, hd2, hc2, hsd⟩ := hsd
   unfold a4_ at hc2
   obtain ⟨e2, rfl, hc2⟩ := hc2
   unfold aR_ at hsd
   obtain ⟨_, d3, hd3, hc3, hsd⟩ := hsd
   unfold a4_ at hc3
   obtain ⟨s3, rfl⟩ := hc3
   unfold aR_ at hsd
   obtain ⟨_, d4, hd4, hc4, hsd⟩ := hsd
   unfold a4_ at hc4
   obtain ⟨n4, rfl⟩ := hc4
   unfold aR_ at hsd
   subst hsd
   subst hd4
   subst hd3
   subst hd2
   subst hd1
   subst hd0
   simp only [aV_, aZ_, Nat.add_zero] at hcn
   obtain ⟨m, es, e, f2, r1, r2, r3, ho_0, nd2, hl2, hfin⟩ := hM.elem hl nd hj2
   obtain ⟨q0, rfl, ho_1⟩ := ho_0.inv_val
   obtain ⟨q1, rfl, ho_2⟩ := ho_1.inv_val
   obtain ⟨c2, q2, g2, w2, rfl, rfl, hw2, ho_3⟩ := ho_2.inv_cons
   obtain ⟨q3, rfl, ho_4⟩ := ho_3.inv_val
   obtain ⟨q4, rfl, ho_5⟩ := ho_4.inv_val
   obtain ⟨rfl, rfl⟩ := ho_5.inv_nil
   simp only [append_nil] at nd2 hl2
   have nd_2 : g2.Nodup := by first | exact nd2 | exact nd2.1 | exact nd2.2.1 | (simp_all; done)
   have hl_2 : l ∉ g2 := fun q => hl2 (by simp [q])
   have u1 : ∀ r, (h.set l r)[l]? = some r := fun r => getElem?_set_self (List.getElem?_eq_some_iff.1 r1).1
   have u2 : ∀ x, (es.set (lo + i) x)[lo + i]? = some x := fun x => getElem?_set_self (List.getElem?_eq_some_iff.1 r3).1
   simp (disch := omega) only [t0, t1, t5, hlt, hsl, hj4, hlo, r1, r2, r3, go_sem, reduceEqDiff, Nat.reduceAdd, reduceLeDiff, reduceCtorEq, ↓reduceIte]
   refine aa_.call (ci_ (z + 1) (by omega) (by omega) _) ?_
   simp (disch := omega) only [t0, t5, hj4, r2, u1, u2, ls_, set_set, go_sem, reduceEqDiff, Nat.reduceAdd, reduceLeDiff, reduceCtorEq, ↓reduceIte]
   refine hb_ _ c2 e2 g2 _ (z + 1 + 1) _ (hw2.keep fun x hx => ?_) nd_2 hc2 (by omega) (by omega) (fun H1 m1 x1 y1 v1 => ?_)
   ·first | rfl | exact getElem?_set_ne (by rintro rfl; exact hl_2 hx)
   have hq2 : (aT_ (bb_ aH_ [.str]) e2 (z + 1 + 1)).2 = z + 1 + 1 + (a2_ (aV_ [.str]) e2 : Nat) := cW_ (fun x _ k => cU_ _ x k) _
   have p1 := (y1 l hl_2).trans (by first | exact u1 _ | exact r1)
   have un1 : ∀ r, (H1.set l r)[l]? = some r := fun r => getElem?_set_self (List.getElem?_eq_some_iff.1 p1).1
   simp (disch := omega) only [t0, t5, go_sem, reduceEqDiff, reduceCtorEq, ↓reduceIte]
   refine aa_.call (ci_ ((aT_ (bb_ aH_ [.str]) e2 (z + 1 + 1)).2) (by omega) (by omega) _) ?_
   simp (disch := omega) only [t0, t5, hj4, r2, u2, ls_, set_set, p1, un1, go_sem, reduceEqDiff, Nat.reduceAdd, reduceLeDiff, reduceCtorEq, ↓reduceIte]
   refine ⟨seg.length - (i + 1), by omega, hJ _ _ _ ⟨i + 1, rs.set (lo + i) _, by simp [upd, t0], by rw [hst]; simp [upd, bb_, bj_], by simp [upd], hfin _ _ _ ?_ (by first | exact un1 _ | exact p1) ?_ ?_, rfl, by omega, by simpa using hrl1, by rw [hst]; exact hss _⟩⟩
   ·simp only [ls_, x1]
   ·intro x hx
    simp only [mem_cons, not_or, append_nil] at hx
    try rw [getElem?_set_ne (Ne.symm hx.1)]
    rw [y1 x (by intro hq; first | (simp_all; done) | exact nd.2.2 _ hq _ hx rfl | exact nd.2.2 _ hx _ hq rfl | grind)]
    try rw [getElem?_set_ne (Ne.symm hx.1)]
   ·simp only [bb_, bj_]
    exact ⟨_, (aL_.mk_val _ (aL_.mk_val _ (aL_.mk_list (v1.keep fun x hx => by first | rfl | ((try rw [getElem?_set_ne (by rintro rfl; exact hl_2 hx)]))) (aL_.mk_val _ (aL_.mk_val _ (aL_.mk_nil (Own _ (0 + 1))))))))⟩
  ·obtain ⟨m, es, r1, r2, _⟩ := hM.out
   have e1 : seg.take i = seg := take_of_length_le (by omega)
   have e2 : seg.drop i = [] := drop_eq_nil_of_le (by omega)
   rw [e1] at t1 hS
   rw [e2, append_nil] at hS
   simp (disch := omega) only [t0, t1, t5, hlt, hsl, hlo, r1, r2, go_sem, reduceEqDiff, reduceCtorEq, ↓reduceIte]
   exact hK _ rs hM hS
theorem o6_ (es : List (List AV)) (k : Int) (hsh : ∀ e ∈ es, aR_ [.int, .str, .list [.str], .str, .int] e) (hk : 0 ≤ k) (hb : k + a2_ (aV_ [.int, .str, .list [.str], .str, .int]) es ≤ 4611686018427387904) (h : List Row) : aa_ prog 56 [.list 0 5 es, .val (.int .i64 k)] h (.val (.int .i64 (bB_ (bC_ aH_ [.int, .str, .list [.str], .str, .int]) es k))) := by
 refine aj_ mixed Tryz.func56 Dl_ rfl rfl ?_ h
 have hsn : es.length ≤ a2_ (aV_ [.int, .str, .list [.str], .str, .int]) es := fx_ (c := aV_ [.int, .str, .list [.str], .str, .int]) (fun e he => by have q := hsh e he; unfold aR_ at q; obtain ⟨c, r, rfl, _, _⟩ := q; simp only [aV_, aZ_]; omega)
 simp (disch := omega) only [Cl_, c56, go_sem, Int.reduceNeg]
 refine aP_ (fun n t h => ∃ (i : Nat) (z : Int), t 0 = .list 0 5 es ∧ t 1 = .val (.int .i64 z) ∧ t 5 = .val (.int .i64 i) ∧ n = es.length - i ∧ i ≤ es.length ∧ 0 ≤ z ∧ z + a2_ (aV_ [.int, .str, .list [.str], .str, .int]) (es.drop i) ≤ 4611686018427387904 ∧ bB_ (bC_ aH_ [.int, .str, .list [.str], .str, .int]) es k = bB_ (bC_ aH_ [.int, .str, .list [.str], .str, .int]) (es.drop i) z) es.length ⟨0, k, rfl, rfl, rfl, rfl, Nat.zero_le _, hk, hb, rfl⟩ ?_
 rintro J hJ n t h ⟨i, z, t0, t1, t5, rfl, hi, hz0, hzb, hS⟩
 by_cases hlt : i < es.length
 ·rw [j1_ hlt] at hS
  rw [np_ hlt] at hzb
  have hsd := hsh _ (getElem_mem hlt)
  obtain ⟨d, hd⟩ : ∃ d, es[i] = d := ⟨_, rfl⟩
  rw [hd] at hS hzb hsd
  have hg : es[i]? = some d := by rw [getElem?_eq_getElem hlt, hd]
  unfold aR_ at hsd
  obtain ⟨_, d0, hd0, hc0, hsd⟩ := hsd
  unfold a4_ at hc0
  obtain ⟨n0, rfl⟩ := hc0
  unfold aR_ at hsd
  obtain ⟨_, d1, hd1, hc1, hsd⟩ := hsd
  unfold a4_ at hc1
  obtain ⟨s1, rfl⟩ := hc1
  unfold aR_ at hsd
  obtain ⟨_, d2, hd2, hc2, hsd⟩ := hsd
  unfold a4_ at hc2
  obtain ⟨e2, rfl, hc2⟩ := hc2
  unfold aR_ at hsd
  obtain ⟨_, d3, hd3, hc3, hsd⟩ := hsd
  unfold a4_ at hc3
  obtain ⟨s3, rfl⟩ := hc3
  unfold aR_ at hsd
  obtain ⟨_, d4, hd4, hc4, hsd⟩ := hsd
  unfold a4_ at hc4
  obtain ⟨n4, rfl⟩ := hc4
  unfold aR_ at hsd
  subst hsd
  subst hd4
  subst hd3
  subst hd2
  subst hd1
  subst hd0
  simp only [aV_, aZ_, Nat.add_zero] at hzb
  simp (disch := omega) only [t0, t1, t5, hlt, hg, go_sem, reduceEqDiff, Nat.reduceAdd, reduceCtorEq, Int.reduceNeg, ↓reduceIte]
  by_cases q0 : n0 = z
  case neg =>
   simp (disch := omega) only [q0, go_sem, Int.reduceNeg, ↓reduceIte]
   exact aF_ (by rw [hS]; exact (cG_ (by simp (disch := first | assumption | omega) only [kN_])).symm)
  simp (disch := omega) only [t0, t1, t5, hg, q0, go_sem, reduceEqDiff, Nat.reduceAdd, reduceLeDiff, reduceCtorEq, Int.reduceNeg, ↓reduceIte]
  refine aa_.q (ci_ (z + 1) (by omega) (by omega) _) ?_
  by_cases q1 : s1 = aH_ (z + 1)
  case neg =>
   simp (disch := omega) only [q1, go_sem, Int.reduceNeg, ↓reduceIte]
   exact aF_ (by rw [hS]; exact (cG_ (by simp (disch := first | assumption | omega) only [eT_, fl_])).symm)
  simp (disch := omega) only [t0, t5, hg, q1, go_sem, reduceEqDiff, Nat.reduceAdd, reduceLeDiff, reduceCtorEq, Int.reduceNeg, ↓reduceIte]
  refine aa_.call (gX_ e2 (z + 1 + 1) hc2 (by omega) (by omega) _) ?_
  have hq2 := g8_ (c := aV_ [.str]) (fun e he k hk => g9_ (mt := aH_) [.str] e k (hc2 e he) hk) (z + 1 + 1) (by omega)
  by_cases q2 : (bB_ (bC_ aH_ [.str]) e2 (z + 1 + 1)) < 0
  ·simp (disch := omega) only [q2, go_sem, Int.reduceNeg, ↓reduceIte]
   exact aF_ (by rw [hS]; exact (cG_ (by simp (disch := first | assumption | omega) only [eT_, dS_, j0_])).symm)
  simp (disch := omega) only [t0, t5, hg, q2, go_sem, reduceEqDiff, Nat.reduceAdd, reduceLeDiff, reduceCtorEq, Int.reduceNeg, ↓reduceIte]
  refine aa_.q (ci_ ((bB_ (bC_ aH_ [.str]) e2 (z + 1 + 1))) (by omega) (by omega) _) ?_
  by_cases q3 : s3 = aH_ ((bB_ (bC_ aH_ [.str]) e2 (z + 1 + 1)))
  case neg =>
   simp (disch := omega) only [q3, go_sem, Int.reduceNeg, ↓reduceIte]
   exact aF_ (by rw [hS]; exact (cG_ (by simp (disch := first | assumption | omega) only [eT_, dS_, fl_, fk_])).symm)
  simp (disch := omega) only [t0, t5, hg, q3, go_sem, reduceEqDiff, Nat.reduceAdd, reduceLeDiff, reduceCtorEq, Int.reduceNeg, ↓reduceIte]
  by_cases q4 : n4 = (bB_ (bC_ aH_ [.str]) e2 (z + 1 + 1)) + 1
  case neg =>
   simp (disch := omega) only [q4, go_sem, Int.reduceNeg, ↓reduceIte]
   exact aF_ (by rw [hS]; exact (cG_ (by simp (disch := first | assumption | omega) only [eT_, kN_, dS_, fk_])).symm)
  simp (disch := omega) only [t5, q4, go_sem, reduceEqDiff, Int.reduceNeg, ↓reduceIte]
  exact ⟨es.length - (i + 1), by omega, hJ _ _ _ ⟨i + 1, (bB_ (bC_ aH_ [.str]) e2 (z + 1 + 1)) + 1 + 1, by simp [upd, t0], by simp [upd], by simp [upd], rfl, by omega, by omega, by omega, by rw [hS]; exact ho_ (by simp (disch := first | assumption | omega) only [eT_, dS_, fk_, j3_]) (by omega)⟩⟩
 ·simp (disch := omega) only [t0, t1, t5, hlt, go_sem, reduceEqDiff, reduceCtorEq, Int.reduceNeg, ↓reduceIte]
  exact aF_ (by rw [hS, drop_eq_nil_of_le (by omega)]; rfl)
theorem ox_ (x : av_) : aR_ [.int, .int, .list [.int, .str, .list [.str], .str, .int]] (av_.cells x) := by
 simp only [av_.cells, aR_, a4_]
 exact ⟨_, _, rfl, ⟨_, rfl⟩, ⟨_, _, rfl, ⟨_, rfl⟩, ⟨_, _, rfl, ⟨_, rfl, si_ _⟩, rfl⟩⟩⟩
theorem kC_ (x : av_) (hb : av_.sz x ≤ 1048576) : bF_ [.int, .int, .list [.int, .str, .list [.str], .str, .int]] (av_.cells x) ≤ 7 * 1048576 := by
 have c0 := rq_ (x.Events)
 have hsz0 : ∀ y : av_, av_.sz y = (an_ ab_.sz) y.Events := fun _ => rfl
 simp only [hsz0] at *
 simp only [av_.cells, bF_, aZ_]
 omega
theorem o4_ (x : av_) (hb : av_.sz x ≤ 1048576) : aQ_ prog 10 [.agg (av_.cells x)] (.agg (av_.cells x)) (fun a => ∃ l_Events, a = .agg [.val (.int .i64 x.Depth), .val (.int .i64 x.Restarts), .own l_Events (x.Events).length]) := by
 have hsz : av_.sz x = (an_ ab_.sz) x.Events := rfl
 refine dn_ mixed Tryz.func10 wy_ rfl (fun h0 => ?_)
 simp (disch := omega) only [vf_, c10, av_.cells, go_sem, reduceEqDiff, Nat.reduceAdd, reduceLeDiff, ↓reduceIte]
 refine nH_ x.Events (by omega) _ _ (fun av1 hn1 hf1 hq1 => ?_)
 obtain ⟨l_Events, rfl⟩ := hq1
 simp (disch := omega) only [go_sem, reduceEqDiff, Nat.reduceAdd, ↓reduceIte, cF_]
 exact ⟨_, rfl, iY_ (ak_.val _ (ak_.val _ (ak_.cons ((hf1.b.keep fun l q1 q2 => r3_ (t := []) (by simp) q1 q2).widen (by first | omega | (simp; done) | (simp; omega)) (Nat.le_refl _)) (ak_.nil _ _ _) ⟨(by first | omega | (simp; done) | (simp; omega)), (by first | omega | (simp; done) | (simp; omega))⟩))), l_Events, rfl⟩
theorem k9_ : ph_ prog 17 aH_ [.int, .int, .list [.int, .str, .list [.str], .str, .int]] := by
 intro m cs ds f H k K ho_0 nd hsh hk hb hK
 unfold aR_ at hsh
 obtain ⟨_, d0, hd0, hc0, hsh⟩ := hsh
 unfold a4_ at hc0
 obtain ⟨n0, rfl⟩ := hc0
 unfold aR_ at hsh
 obtain ⟨_, d1, hd1, hc1, hsh⟩ := hsh
 unfold a4_ at hc1
 obtain ⟨n1, rfl⟩ := hc1
 unfold aR_ at hsh
 obtain ⟨_, d2, hd2, hc2, hsh⟩ := hsh
 unfold a4_ at hc2
 obtain ⟨e2, rfl, hc2⟩ := hc2
 unfold aR_ at hsh
 subst hsh
 subst hd2
 subst hd1
 subst hd0
 simp only [bF_, aZ_, Nat.add_zero] at hb
 have hlt : ∀ x ∈ f, x < H.length := fun x hx => by
  obtain ⟨row, _, _, _, q, _⟩ := aL_.inner (fun a r f ho => Own.inner ho) ho_0 x hx
  exact (List.getElem?_eq_some_iff.1 q).1
 obtain ⟨q0, rfl, ho_1⟩ := ho_0.inv_val
 obtain ⟨q1, rfl, ho_2⟩ := ho_1.inv_val
 obtain ⟨c2, q2, g2, w2, rfl, rfl, hw2, ho_3⟩ := ho_2.inv_cons
 obtain ⟨rfl, rfl⟩ := ho_3.inv_nil
 simp only [append_nil] at nd hlt
 have nd_2 : g2.Nodup := by first | exact nd | exact nd.1 | exact nd.2.1 | (simp_all; done)
 have hl_2 : ∀ x ∈ g2, x < H.length := fun x hx => hlt x (by simp [hx])
 have cc2 := hw2.cell_list
 simp only [AV.cell, Value.oneCell'] at cc2
 refine bg_ mixed Tryz.func17 DI_ (bT_ rfl ?_)
 simp (disch := omega) only [Ch_, c17, cc2, go_sem, reduceEqDiff, Nat.reduceAdd, ↓reduceIte]
 refine oY_ _ c2 e2 g2 _ (k) _ (hw2.keep fun x hx => ?_) nd_2 hc2 (by omega) (by omega) (fun H1 m1 x1 y1 v1 => ?_)
 ·exact getElem?_append_left (hl_2 x hx)
 have hq2 : (aT_ (bb_ aH_ [.int, .str, .list [.str], .str, .int]) e2 (k)).2 = k + (a2_ (aV_ [.int, .str, .list [.str], .str, .int]) e2 : Nat) := cW_ (fun x _ k => cU_ _ x k) _
 have p1 := (y1 H.length (fun hq => by have := hl_2 _ hq; omega)).trans (b4_ _ _)
 simp (disch := omega) only [go_sem, ↓reduceIte]
 have hfr : ∀ x, x < H.length → x ∉ (g2) → H1[x]? = H[x]? := by
  intro x hx hxf
  try simp only [mem_append, not_or] at hxf
  rw [y1 x (by intro hq; first | (simp_all; done) | exact nd.2.2 _ hq _ hx rfl | exact nd.2.2 _ hx _ hq rfl | grind)]
  exact getElem?_append_left hx
 have hfin := hK H1 (by simp only [x1, la_]; omega) (fun x hx hxf => hfr x hx (by simpa using hxf)) (by simp only [ba_, bj_]; exact ⟨_, (aL_.mk_val _ (aL_.mk_val _ (aL_.mk_list (v1.keep fun x hx => by rfl) (aL_.mk_nil (Own _ (0 + 1))))))⟩)
 simp only [ba_, bj_] at hfin
 exact hfin
theorem gE_ (ds : List AV) (k : Int) (hsh : aR_ [.int, .int, .list [.int, .str, .list [.str], .str, .int]] ds) (hp : ds.all AV.flat = true) (hk : 0 ≤ k) (hb : k + bF_ [.int, .int, .list [.int, .str, .list [.str], .str, .int]] ds ≤ 4611686018427387904) (h : List Row) : aa_ prog 19 [.agg ds, .val (.int .i64 k)] h (.val (.int .i64 (ep_ aH_ [.int, .int, .list [.int, .str, .list [.str], .str, .int]] ds k))) := by
 unfold aR_ at hsh
 obtain ⟨_, d0, hd0, hc0, hsh⟩ := hsh
 unfold a4_ at hc0
 obtain ⟨n0, rfl⟩ := hc0
 unfold aR_ at hsh
 obtain ⟨_, d1, hd1, hc1, hsh⟩ := hsh
 unfold a4_ at hc1
 obtain ⟨n1, rfl⟩ := hc1
 unfold aR_ at hsh
 obtain ⟨_, d2, hd2, hc2, hsh⟩ := hsh
 unfold a4_ at hc2
 obtain ⟨e2, rfl, hc2⟩ := hc2
 unfold aR_ at hsh
 subst hsh
 subst hd2
 subst hd1
 subst hd0
 refine aj_ mixed Tryz.func19 Dv_ rfl (by simp only [all_cons, all_nil, AV.plain, hp]; rfl) ?_ h
 simp only [bF_, aZ_, Nat.add_zero] at hb
 simp (disch := omega) only [CI_, c19, go_sem, reduceEqDiff, Nat.reduceAdd, Int.reduceNeg, ↓reduceIte]
 refine aa_.call (o6_ e2 (k) hc2 (by omega) (by omega) _) ?_
 have hq2 := g8_ (c := aV_ [.int, .str, .list [.str], .str, .int]) (fun e he k hk => g9_ (mt := aH_) [.int, .str, .list [.str], .str, .int] e k (hc2 e he) hk) (k) (by omega)
 by_cases q2 : (bB_ (bC_ aH_ [.int, .str, .list [.str], .str, .int]) e2 (k)) < 0
 ·simp (disch := omega) only [q2, go_sem, Int.reduceNeg, ↓reduceIte]
  exact aF_ (by simp only [ep_, bO_, *, if_true])
 simp (disch := omega) only [q2, go_sem, reduceEqDiff, Int.reduceNeg, ↓reduceIte]
 exact aF_ (by simp only [ep_, bO_, *, if_false])
theorem s5_ (x : az_) : aR_ [.int, .str, .list [.str], .str] (az_.cells x) := by
 simp only [az_.cells, aR_, a4_]
 exact ⟨_, _, rfl, ⟨_, rfl⟩, ⟨_, _, rfl, ⟨_, rfl⟩, ⟨_, _, rfl, ⟨_, rfl, jr_ _⟩, ⟨_, _, rfl, ⟨_, rfl⟩, rfl⟩⟩⟩⟩
theorem rB_ (xs : List az_) : ∀ e ∈ xs.map az_.cells, aR_ [.int, .str, .list [.str], .str] e := by
 intro e he
 obtain ⟨x, _, q⟩ := mem_map.1 he; subst q
 exact s5_ x
theorem pu_ (xs : List az_) : a2_ (aV_ [.int, .str, .list [.str], .str]) (xs.map az_.cells) ≤ 4 * (an_ az_.sz) xs := by
 refine hr_ (fun x => ?_) xs
 have c0 := in_ (x.Subs)
 have hsz0 : ∀ y : az_, az_.sz y = ByteArray.size y.Name + (an_ ByteArray.size) y.Subs + ByteArray.size y.Value := fun _ => rfl
 simp only [hsz0] at *
 simp only [az_.cells, aV_, aZ_]
 omega
theorem qM_ (xs : List az_) (hb : (an_ az_.sz) xs ≤ 1048576) : a2_ (aV_ [.int, .str, .list [.str], .str]) (xs.map az_.cells) ≤ 4 * 1048576 := by
 have := pu_ xs
 omega
theorem nJ_ : gn_ prog 23 aH_ [.int, .str, .list [.str], .str] := by
 refine gn_.of ?_ ?_
 ·intro H k K hK
  refine bg_ mixed Tryz.func23 w4_ (bT_ rfl ?_)
  simp (disch := omega) only [u2_, c23, go_sem]
  refine aP_ (fun n t h => t 0 = .val (.slice none 0 0) ∧ t 1 = .val (.int .i64 k) ∧ t 5 = .val (.int .i64 0) ∧ h = H) 0 ⟨rfl, rfl, rfl, rfl⟩ ?_
  rintro J hJ n t h ⟨t0, t1, t5, rfl⟩
  simp (disch := omega) only [t0, t1, t5, go_sem, reduceEqDiff, reduceCtorEq, Int.reduceLT, ↓reduceIte]
  exact hK
 ·intro l cnt lo hi E rs0 f H0 k K hT hl nd hrl hlo hhi hsh hk hb hK
  refine bg_ mixed Tryz.func23 w4_ (bT_ rfl ?_)
  obtain ⟨seg, hseg⟩ : ∃ seg, seg = (rs0.take hi).drop lo := ⟨_, rfl⟩
  rw [← hseg] at hsh hb hK
  have hsl : hi - lo = seg.length := by rw [hseg, length_drop, length_take]; omega
  have hsn : seg.length ≤ a2_ (aV_ [.int, .str, .list [.str], .str]) seg := fx_ (c := aV_ [.int, .str, .list [.str], .str]) (fun e he => by have q := hsh e he; unfold aR_ at q; obtain ⟨c, r, rfl, _, _⟩ := q; simp only [aV_, aZ_]; omega)
  simp (disch := omega) only [u2_, c23, go_sem]
  refine aP_ (fun n t h => ∃ (i : Nat) (rs : List (List AV)), t 0 = .sub l cnt lo hi ∧ t 1 = .val (.int .i64 (aT_ (bb_ aH_ [.int, .str, .list [.str], .str]) (seg.take i) k).2) ∧ t 5 = .val (.int .i64 i) ∧ MT H0 l E 4 cnt f rs h ∧ n = seg.length - i ∧ i ≤ seg.length ∧ rs.length = cnt ∧ (rs.take hi).drop lo = (aT_ (bb_ aH_ [.int, .str, .list [.str], .str]) (seg.take i) k).1 ++ seg.drop i) seg.length ⟨0, rs0, rfl, rfl, rfl, hT, rfl, Nat.zero_le _, hrl, hseg.symm⟩ ?_
  rintro J hJ n t h ⟨i, rs, t0, t1, t5, hM, rfl, hi1, hrl1, hS⟩
  by_cases hlt : i < seg.length
  ·have hA : (aT_ (bb_ aH_ [.int, .str, .list [.str], .str]) (seg.take i) k).1.length = i := by rw [gF_, length_take]; omega
   have hst := kk_ (g := (bb_ aH_ [.int, .str, .list [.str], .str])) (k := k) hlt
   have hcn := ii_ (c := aV_ [.int, .str, .list [.str], .str]) hlt
   have hzz : (aT_ (bb_ aH_ [.int, .str, .list [.str], .str]) (seg.take i) k).2 = k + a2_ (aV_ [.int, .str, .list [.str], .str]) (seg.take i) := cW_ (fun x _ k => cU_ [.int, .str, .list [.str], .str] x k) k
   have hj4 : (lo : Int) + (i : Int) < (hi : Int) := by omega
   have hj2 := (lm_ hS hA hlt).2.1
   have hsd := hsh _ (getElem_mem hlt)
   have hss : ∀ d, ((rs.set (lo + i) d).take hi).drop lo = ((aT_ (bb_ aH_ [.int, .str, .list [.str], .str]) (seg.take i) k).1 ++ [d]) ++ seg.drop (i + 1) := fun d => ka_ hS hA hlt
   clear hS hA
   generalize seg[i] = d at hst hcn hj2 hsd
   obtain ⟨z, hz⟩ : ∃ z, z = (aT_ (bb_ aH_ [.int, .str, .list [.str], .str]) (seg.take i) k).2 := ⟨_, rfl⟩
   rw [← hz] at hst hzz t1
   have hz0 : 0 ≤ z := by omega
   unfold aR_ at hsd
   obtain ⟨_, d0, hd0, hc0, hsd⟩ := hsd
   unfold a4_ at hc0
   obtain ⟨n0, rfl⟩ := hc0
   unfold aR_ at hsd
   obtain ⟨_, d1, hd1, hc1, hsd⟩ := hsd
   unfold a4_ at hc1
   obtain ⟨s1, rfl⟩ := hc1
   unfold aR_ at hsd
   obtain ⟨_, d2, hd2, hc2, hsd⟩ := hsd
   unfold a4_ at hc2
   obtain ⟨e2, rfl, hc2⟩ := hc2
   unfold aR_ at hsd
   obtain ⟨_, d3, hd3, hc3, hsd⟩ := hsd
   unfold a4_ at hc3
   obtain ⟨s3, rfl⟩ := hc3
   unfold aR_ at hsd
   subst hsd
   subst hd3
   subst hd2
   subst hd1
   subst hd0
   simp only [aV_, aZ_, Nat.add_zero] at hcn
   obtain ⟨m, es, e, f2, r1, r2, r3, ho_0, nd2, hl2, hfin⟩ := hM.elem hl nd hj2
   obtain ⟨q0, rfl, ho_1⟩ := ho_0.inv_val
   obtain ⟨q1, rfl, ho_2⟩ := ho_1.inv_val
   obtain ⟨c2, q2, g2, w2, rfl, rfl, hw2, ho_3⟩ := ho_2.inv_cons
   obtain ⟨q3, rfl, ho_4⟩ := ho_3.inv_val
   obtain ⟨rfl, rfl⟩ := ho_4.inv_nil
   simp only [append_nil] at nd2 hl2
   have nd_2 : g2.Nodup := by first | exact nd2 | exact nd2.1 | exact nd2.2.1 | (simp_all; done)
   have hl_2 : l ∉ g2 := fun q => hl2 (by simp [q])
   have u1 : ∀ r, (h.set l r)[l]? = some r := fun r => getElem?_set_self (List.getElem?_eq_some_iff.1 r1).1
   have u2 : ∀ x, (es.set (lo + i) x)[lo + i]? = some x := fun x => getElem?_set_self (List.getElem?_eq_some_iff.1 r3).1
   simp (disch := omega) only [t0, t1, t5, hlt, hsl, hj4, hlo, r1, r2, r3, go_sem, reduceEqDiff, Nat.reduceAdd, reduceLeDiff, reduceCtorEq, ↓reduceIte]
   refine aa_.call (ci_ (z + 1) (by omega) (by omega) _) ?_
   simp (disch := omega) only [t0, t5, hj4, r2, u1, u2, ls_, set_set, go_sem, reduceEqDiff, Nat.reduceAdd, reduceLeDiff, reduceCtorEq, ↓reduceIte]
   refine hb_ _ c2 e2 g2 _ (z + 1 + 1) _ (hw2.keep fun x hx => ?_) nd_2 hc2 (by omega) (by omega) (fun H1 m1 x1 y1 v1 => ?_)
   ·first | rfl | exact getElem?_set_ne (by rintro rfl; exact hl_2 hx)
   have hq2 : (aT_ (bb_ aH_ [.str]) e2 (z + 1 + 1)).2 = z + 1 + 1 + (a2_ (aV_ [.str]) e2 : Nat) := cW_ (fun x _ k => cU_ _ x k) _
   have p1 := (y1 l hl_2).trans (by first | exact u1 _ | exact r1)
   have un1 : ∀ r, (H1.set l r)[l]? = some r := fun r => getElem?_set_self (List.getElem?_eq_some_iff.1 p1).1
   simp (disch := omega) only [t0, t5, go_sem, reduceEqDiff, reduceCtorEq, ↓reduceIte]
   refine aa_.call (ci_ ((aT_ (bb_ aH_ [.str]) e2 (z + 1 + 1)).2) (by omega) (by omega) _) ?_
   simp (disch := omega) only [t5, hj4, r2, u2, ls_, set_set, p1, go_sem, reduceEqDiff, Nat.reduceAdd, ↓reduceIte]
   refine ⟨seg.length - (i + 1), by omega, hJ _ _ _ ⟨i + 1, rs.set (lo + i) _, by simp [upd, t0], by rw [hst]; simp [upd, bb_, bj_], by simp [upd], hfin _ _ _ ?_ (by first | exact un1 _ | exact p1) ?_ ?_, rfl, by omega, by simpa using hrl1, by rw [hst]; exact hss _⟩⟩
   ·simp only [ls_, x1]
   ·intro x hx
    simp only [mem_cons, not_or, append_nil] at hx
    try rw [getElem?_set_ne (Ne.symm hx.1)]
    rw [y1 x (by intro hq; first | (simp_all; done) | exact nd.2.2 _ hq _ hx rfl | exact nd.2.2 _ hx _ hq rfl | grind)]
    try rw [getElem?_set_ne (Ne.symm hx.1)]
   ·simp only [bb_, bj_]
    exact ⟨_, (aL_.mk_val _ (aL_.mk_val _ (aL_.mk_list (v1.keep fun x hx => by first | rfl | ((try rw [getElem?_set_ne (by rintro rfl; exact hl_2 hx)]))) (aL_.mk_val _ (aL_.mk_nil (Own _ (0 + 1)))))))⟩
  ·obtain ⟨m, es, r1, r2, _⟩ := hM.out
   have e1 : seg.take i = seg := take_of_length_le (by omega)
   have e2 : seg.drop i = [] := drop_eq_nil_of_le (by omega)
   rw [e1] at t1 hS
   rw [e2, append_nil] at hS
   simp (disch := omega) only [t0, t1, t5, hlt, hsl, hlo, r1, r2, go_sem, reduceEqDiff, reduceCtorEq, ↓reduceIte]
   exact hK _ rs hM hS
theorem ft_ (es : List (List AV)) (k : Int) (hsh : ∀ e ∈ es, aR_ [.int, .str, .list [.str], .str] e) (hk : 0 ≤ k) (hb : k + a2_ (aV_ [.int, .str, .list [.str], .str]) es ≤ 4611686018427387904) (h : List Row) : aa_ prog 25 [.list 0 4 es, .val (.int .i64 k)] h (.val (.int .i64 (bB_ (bC_ aH_ [.int, .str, .list [.str], .str]) es k))) := by
 refine aj_ mixed Tryz.func25 D2_ rfl rfl ?_ h
 have hsn : es.length ≤ a2_ (aV_ [.int, .str, .list [.str], .str]) es := fx_ (c := aV_ [.int, .str, .list [.str], .str]) (fun e he => by have q := hsh e he; unfold aR_ at q; obtain ⟨c, r, rfl, _, _⟩ := q; simp only [aV_, aZ_]; omega)
 simp (disch := omega) only [CL_, c25, go_sem, Int.reduceNeg]
 refine aP_ (fun n t h => ∃ (i : Nat) (z : Int), t 0 = .list 0 4 es ∧ t 1 = .val (.int .i64 z) ∧ t 5 = .val (.int .i64 i) ∧ n = es.length - i ∧ i ≤ es.length ∧ 0 ≤ z ∧ z + a2_ (aV_ [.int, .str, .list [.str], .str]) (es.drop i) ≤ 4611686018427387904 ∧ bB_ (bC_ aH_ [.int, .str, .list [.str], .str]) es k = bB_ (bC_ aH_ [.int, .str, .list [.str], .str]) (es.drop i) z) es.length ⟨0, k, rfl, rfl, rfl, rfl, Nat.zero_le _, hk, hb, rfl⟩ ?_
 rintro J hJ n t h ⟨i, z, t0, t1, t5, rfl, hi, hz0, hzb, hS⟩
 by_cases hlt : i < es.length
 ·rw [j1_ hlt] at hS
  rw [np_ hlt] at hzb
  have hsd := hsh _ (getElem_mem hlt)
  obtain ⟨d, hd⟩ : ∃ d, es[i] = d := ⟨_, rfl⟩
  rw [hd] at hS hzb hsd
  have hg : es[i]? = some d := by rw [getElem?_eq_getElem hlt, hd]
  unfold aR_ at hsd
  obtain ⟨_, d0, hd0, hc0, hsd⟩ := hsd
  unfold a4_ at hc0
  obtain ⟨n0, rfl⟩ := hc0
  unfold aR_ at hsd
  obtain ⟨_, d1, hd1, hc1, hsd⟩ := hsd
  unfold a4_ at hc1
  obtain ⟨s1, rfl⟩ := hc1
  unfold aR_ at hsd
  obtain ⟨_, d2, hd2, hc2, hsd⟩ := hsd
  unfold a4_ at hc2
  obtain ⟨e2, rfl, hc2⟩ := hc2
  unfold aR_ at hsd
  obtain ⟨_, d3, hd3, hc3, hsd⟩ := hsd
  unfold a4_ at hc3
  obtain ⟨s3, rfl⟩ := hc3
  unfold aR_ at hsd
  subst hsd
  subst hd3
  subst hd2
  subst hd1
  subst hd0
  simp only [aV_, aZ_, Nat.add_zero] at hzb
  simp (disch := omega) only [t0, t1, t5, hlt, hg, go_sem, reduceEqDiff, Nat.reduceAdd, reduceCtorEq, Int.reduceNeg, ↓reduceIte]
  by_cases q0 : n0 = z
  case neg =>
   simp (disch := omega) only [q0, go_sem, Int.reduceNeg, ↓reduceIte]
   exact aF_ (by rw [hS]; exact (cG_ (by simp (disch := first | assumption | omega) only [kN_])).symm)
  simp (disch := omega) only [t0, t1, t5, hg, q0, go_sem, reduceEqDiff, Nat.reduceAdd, reduceLeDiff, reduceCtorEq, Int.reduceNeg, ↓reduceIte]
  refine aa_.q (ci_ (z + 1) (by omega) (by omega) _) ?_
  by_cases q1 : s1 = aH_ (z + 1)
  case neg =>
   simp (disch := omega) only [q1, go_sem, Int.reduceNeg, ↓reduceIte]
   exact aF_ (by rw [hS]; exact (cG_ (by simp (disch := first | assumption | omega) only [eT_, fl_])).symm)
  simp (disch := omega) only [t0, t5, hg, q1, go_sem, reduceEqDiff, Nat.reduceAdd, reduceLeDiff, reduceCtorEq, Int.reduceNeg, ↓reduceIte]
  refine aa_.call (gX_ e2 (z + 1 + 1) hc2 (by omega) (by omega) _) ?_
  have hq2 := g8_ (c := aV_ [.str]) (fun e he k hk => g9_ (mt := aH_) [.str] e k (hc2 e he) hk) (z + 1 + 1) (by omega)
  by_cases q2 : (bB_ (bC_ aH_ [.str]) e2 (z + 1 + 1)) < 0
  ·simp (disch := omega) only [q2, go_sem, Int.reduceNeg, ↓reduceIte]
   exact aF_ (by rw [hS]; exact (cG_ (by simp (disch := first | assumption | omega) only [eT_, dS_, j0_])).symm)
  simp (disch := omega) only [t0, t5, hg, q2, go_sem, reduceEqDiff, Nat.reduceAdd, reduceLeDiff, reduceCtorEq, Int.reduceNeg, ↓reduceIte]
  refine aa_.q (ci_ ((bB_ (bC_ aH_ [.str]) e2 (z + 1 + 1))) (by omega) (by omega) _) ?_
  by_cases q3 : s3 = aH_ ((bB_ (bC_ aH_ [.str]) e2 (z + 1 + 1)))
  case neg =>
   simp (disch := omega) only [q3, go_sem, Int.reduceNeg, ↓reduceIte]
   exact aF_ (by rw [hS]; exact (cG_ (by simp (disch := first | assumption | omega) only [eT_, dS_, fl_, fk_])).symm)
  simp (disch := omega) only [t5, q3, go_sem, reduceEqDiff, Int.reduceNeg, ↓reduceIte]
  exact ⟨es.length - (i + 1), by omega, hJ _ _ _ ⟨i + 1, (bB_ (bC_ aH_ [.str]) e2 (z + 1 + 1)) + 1, by simp [upd, t0], by simp [upd], by simp [upd], rfl, by omega, by omega, by omega, by rw [hS]; exact ho_ (by simp (disch := first | assumption | omega) only [eT_, dS_, fk_, j3_]) (by omega)⟩⟩
 ·simp (disch := omega) only [t0, t1, t5, hlt, go_sem, reduceEqDiff, reduceCtorEq, Int.reduceNeg, ↓reduceIte]
  exact aF_ (by rw [hS, drop_eq_nil_of_le (by omega)]; rfl)
end Go.Proofs.YtfkddbkjmkceaaaGreatDoor
