/-
 Contracts of functions. Conditions: as each theorem says.
-/
import Derived.Test.YthahmhkbcdpkjabGreatDoorGnFnExactAddBatch
import Derived.Test.YthahmhkbcdpkjabGreatDoorAwC
import Derived.Test.YthahmhkbcdpkjabGreatDoorPlNum
namespace Go.Proofs.YthahmhkbcdpkjabGreatDoor
open Tryz (prog)
open Nat (reduceEqDiff reduceLeDiff)
open List
open Go.AW
set_option linter.unusedVariables false
set_option linter.unusedSimpArgs false
set_option maxRecDepth 4000
def aD_ (k : Int) : ByteArray := if k ≤ 0 then txt [109, 48] else txt (109 :: bD_ k.toNat)
theorem nT_ (u : Nat) (h : u ≠ 0) : bD_ u = bD_ (u / 10) ++ [UInt8.ofNat (48 + u % 10)] := by
 unfold bD_
 rw [if_neg h, Lib.decDigits]
 by_cases q : u < 10
 ·rw [dif_pos q, if_pos (by omega)]
  have : u % 10 = u := by omega
  rw [this]; rfl
 ·rw [dif_neg q, if_neg (by omega)]
theorem mS_ (u : Nat) (h : u ≤ 4611686018427387904) : (bD_ u).length ≤ 19 := by
 unfold bD_
 split
 ·simp
 ·rw [Go.Lib.decDigits_length]; exact gq_ 18 _ (by omega)
def c29 : LC :=
 .q [.o [.s 2 (.mov (.const (.string ⟨#[]⟩)))], .q [.o [.m 4 0, .bk 5 .leq false 4 0], .k 5 (.q [.o [.s 2 (.mov (.const (.string ⟨#[109, 48]⟩)))], .ret]) .skip], .o [.s 3 (.mov (.const (.string ⟨#[]⟩)))], .block 0 (.loop
 (.q [.q [.o [.m 6 0, .bk 7 .gtr false 6 0], .k 7 .skip (.exit 0)], .block 1 (.q [.o [.m 8 0, .bk 9 .rem false 8 10, .s 10 (.bin .add false (.const (.int .i64 48)) (.tmp 9)), .s 11 (.convInt .u8 (.tmp 10)), .s 12
 (.buildSlice 5 1 (.int .u8 0) 1 [(0, .tmp 11)]), .s 13 (.toStr (.tmp 12)), .m 14 3, .bb 15 .add false 13 14, .m 3 15], .o [.m 16 0, .bk 17 .quo false 16 10, .m 0 17]])])), .o [.m 18 3, .s 19 (.bin .add false (.const
 (.string ⟨#[109]⟩)) (.tmp 18)), .m 2 19], .ret]
def rw_ : LF := ⟨1, 20, c29, [.tmp 2]⟩
theorem xY_ : as_ prog Tryz.f29 rw_ := al_
theorem dh_ (k : Int) (hk : 0 ≤ k) (hb : k ≤ 4611686018427387904) (h : List Row) : aa_ prog 29 [.val (.int .i64 k)] h (.val (.string (aD_ k))) := by
 refine ah_ mixed Tryz.func29 xY_ rfl rfl ?_ h
 by_cases h0 : k ≤ 0
 ·simp (disch := omega) only [rw_, c29, h0, go_sem, reduceCtorEq, ↓reduceIte]
  exact aG_ (by rw [aD_, if_pos h0])
 ·simp (disch := omega) only [rw_, c29, h0, go_sem, reduceCtorEq, ↓reduceIte]
  have hL := mS_ k.toNat (by omega)
  refine aJ_ (fun n t h => ∃ (u : Nat) (out : List UInt8), t 0 = .val (.int .i64 u) ∧ t 3 = .val (.string (txt out)) ∧ u = n ∧ u ≤ 4611686018427387904 ∧ bD_ k.toNat = bD_ u ++ out) k.toNat ⟨k.toNat, [], by simp [upd, eO_]; omega, rfl, rfl, by omega, by simp⟩ ?_
  rintro J hJ n t h ⟨u, out, t0, t3, rfl, hu, hS⟩
  by_cases hz : 0 < u
  ·have hm := nT_ u (by omega)
   have hlen := congrArg List.length hS
   simp only [la_] at hlen
   have hl1 : ([UInt8.ofNat (48 + u % 10)] : List UInt8).length + out.length ≤ 9223372036854775807 := by simp only [lc_, ln_]; omega
   have e1 : ((u : Int) % 10).toNat = u % 10 := by omega
   have e2 : (48 + (u : Int) % 10).toNat = 48 + u % 10 := by omega
   have e3 : ((u : Int) / 10) = ((u / 10 : Nat) : Int) := by omega
   simp (disch := omega) only [t0, t3, hz, e2, e3, bv_ _ _ _ hl1, go_sem, reduceEqDiff, reduceCtorEq, ↓reduceIte]
   exact ⟨u / 10, by omega, hJ _ _ _ ⟨u / 10, UInt8.ofNat (48 + u % 10) :: out, by simp [upd], by simp [upd], rfl, by omega, by rw [hS, hm, append_assoc]; rfl⟩⟩
  ·have hz' : u = 0 := by omega
   subst hz'
   have hlen := congrArg List.length hS
   simp only [la_] at hlen
   have hl2 : ([109] : List UInt8).length + out.length ≤ 9223372036854775807 := by simp only [lc_, ln_]; omega
   simp (disch := omega) only [t0, t3, bv_ _ _ _ hl2, go_sem, reduceEqDiff, Int.reduceLT, ↓reduceIte]
   exact aG_ (by rw [aD_, if_neg h0, hS]; rfl)
def c30 : LC :=
 .q [.o [.ki 4 0], .q [.o [.ki 5 0], .block 0 (.loop (.q [.q [.o [.m 6 5, .m 7 0, .ll 8 7, .bb 9 .lss false 6 8], .k 9 .skip (.exit 0)], .block 1 (.q [.o [.m 12 0, .m 13 5, .m 14 1, .c1 15 29 14, .ia 16 1 12 13, .st 1 16
 15], .o [.m 17 1, .bk 18 .add false 17 1, .m 1 18]]), .o [.m 10 5, .bk 11 .add false 10 1, .m 5 11]]))], .o [.m 19 1, .m 4 19], .ret]
def sq_ : LF := ⟨2, 20, c30, [.tmp 4]⟩
theorem su_ : as_ prog Tryz.f30 sq_ := al_
def c56 : LC :=
 .q [.o [.ki 4 0], .q [.o [.ki 5 0], .block 0 (.loop (.q [.q [.o [.m 6 5, .m 7 0, .ll 8 7, .bb 9 .lss false 6 8], .k 9 .skip (.exit 0)], .block 1 (.q [.q [.dops [.m 12 0, .m 13 5, .ia 14 1 12 13, .ln 15 14, .m 16 1, .c1
 17 29 16, .bb 18 .neq false 15 17], .k 18 (.q [.o [.s 4 (.mov (.const (.int .i64 (-1))))], .ret]) .skip], .o [.m 19 1, .bk 20 .add false 19 1, .m 1 20]]), .o [.m 10 5, .bk 11 .add false 10 1, .m 5 11]]))], .o [.m 21 1,
 .m 4 21], .ret]
def vf_ : LF := ⟨2, 22, c56, [.tmp 4]⟩
theorem wS_ : as_ prog Tryz.f56 vf_ := al_
def c55 : LC :=
 .q [.o [.ki 4 0], .q [.o [.ki 5 0], .block 0 (.loop (.q [.q [.o [.m 6 5, .m 7 0, .ll 8 7, .bb 9 .lss false 6 8], .k 9 .skip (.exit 0)], .block 1 (.q [.o [.m 12 0, .m 13 5, .m 14 1, .ia 15 2 12 13, .fa 16 0 15, .st 1 16
 14], .o [.m 17 1, .bk 18 .add false 17 1, .m 1 18], .o [.m 19 0, .m 20 5, .m 21 1, .c1 22 29 21, .ia 23 2 19 20, .fa 24 1 23, .st 1 24 22], .o [.m 25 1, .bk 26 .add false 25 1, .m 1 26]]), .o [.m 10 5, .bk 11 .add false
 10 1, .m 5 11]]))], .o [.m 27 1, .m 4 27], .ret]
def rN_ : LF := ⟨2, 28, c55, [.tmp 4]⟩
theorem s0_ : as_ prog Tryz.f55 rN_ := al_
def c57 : LC :=
 .q [.o [.ki 4 0], .q [.o [.ki 5 0], .block 0 (.loop (.q [.q [.o [.m 6 5, .m 7 0, .ll 8 7, .bb 9 .lss false 6 8], .k 9 .skip (.exit 0)], .block 1 (.q [.q [.o [.m 12 0, .m 13 5, .ia 14 2 12 13, .fa 15 0 14, .ln 16 15, .m
 17 1, .bb 18 .neq false 16 17], .k 18 (.q [.o [.s 4 (.mov (.const (.int .i64 (-1))))], .ret]) .skip], .o [.m 19 1, .bk 20 .add false 19 1, .m 1 20], .q [.dops [.m 21 0, .m 22 5, .ia 23 2 21 22, .fa 24 1 23, .ln 25 24, .m
 26 1, .c1 27 29 26, .bb 28 .neq false 25 27], .k 28 (.q [.o [.s 4 (.mov (.const (.int .i64 (-1))))], .ret]) .skip], .o [.m 29 1, .bk 30 .add false 29 1, .m 1 30]]), .o [.m 10 5, .bk 11 .add false 10 1, .m 5 11]]))], .o
 [.m 31 1, .m 4 31], .ret]
def uo_ : LF := ⟨2, 32, c57, [.tmp 4]⟩
theorem xA_ : as_ prog Tryz.f57 uo_ := al_
def c28 : LC :=
 .q [.o [.bx 2 33 0, .ki 4 0], .o [.fa 5 1 2, .ln 6 5, .m 7 1, .c2 8 30 6 7, .m 1 8], .o [.fa 9 2 2, .ln 10 9, .m 11 1, .c2 12 55 10 11, .m 1 12], .o [.m 13 1, .m 4 13], .ret]
def u6_ : LF := ⟨2, 14, c28, [.tmp 4]⟩
theorem xf_ : as_ prog Tryz.f28 u6_ := al_
def c31 : LC :=
 .q [.o [.bx 2 33 0, .ki 4 0], .o [.fa 5 1 2, .ln 6 5, .m 7 1, .c2 8 56 6 7, .m 1 8], .q [.o [.m 9 1, .bk 10 .lss false 9 0], .k 10 (.q [.o [.s 4 (.mov (.const (.int .i64 (-1))))], .ret]) .skip], .o [.fa 11 2 2, .ln 12
 11, .m 13 1, .c2 14 57 12 13, .m 1 14], .q [.o [.m 15 1, .bk 16 .lss false 15 0], .k 16 (.q [.o [.s 4 (.mov (.const (.int .i64 (-1))))], .ret]) .skip], .o [.m 17 1, .m 4 17], .ret]
def vV_ : LF := ⟨2, 18, c31, [.tmp 4]⟩
theorem wG_ : as_ prog Tryz.f31 vV_ := al_
def c12 : LC :=
 .q [.o [.bx 2 35 0, .ki 4 0], .o [.fa 5 0 2, .ld 6 3 5, .m 7 1, .c2 8 28 6 7, .m 1 8], .o [.m 9 1, .m 4 9], .ret]
def uq_ : LF := ⟨2, 10, c12, [.tmp 4]⟩
theorem wL_ : as_ prog Tryz.f12 uq_ := al_
def c14 : LC :=
 .q [.o [.bx 2 35 0, .ki 4 0], .o [.fa 5 0 2, .ld 6 3 5, .m 7 1, .c2 8 31 6 7, .m 1 8], .q [.o [.m 9 1, .bk 10 .lss false 9 0], .k 10 (.q [.o [.s 4 (.mov (.const (.int .i64 (-1))))], .ret]) .skip], .o [.m 11 1, .m 4 11],
 .ret]
def we_ : LF := ⟨2, 12, c14, [.tmp 4]⟩
theorem wT_ : as_ prog Tryz.f14 we_ := al_
def c13 : LC :=
 .q [.o [.ki 4 0], .q [.o [.ki 5 0], .block 0 (.loop (.q [.q [.o [.m 6 5, .m 7 0, .ll 8 7, .bb 9 .lss false 6 8], .k 9 .skip (.exit 0)], .block 1 (.q [.o [.m 12 0, .m 13 5, .m 14 1, .c1 15 29 14, .ia 16 6 12 13, .fa 17 0
 16, .st 1 17 15], .o [.m 18 1, .bk 19 .add false 18 1, .m 1 19], .o [.m 20 0, .m 21 5, .ia 22 6 20 21, .fa 23 1 22, .ln 24 23, .m 25 1, .c2 26 30 24 25, .m 1 26], .o [.m 27 0, .m 28 5, .m 29 1, .bk 30 .rem false 29 3,
 .bk 31 .eql false 30 0, .ia 32 6 27 28, .fa 33 2 32, .st 1 33 31], .o [.m 34 1, .bk 35 .add false 34 1, .m 1 35], .o [.m 36 0, .m 37 5, .m 38 1, .c1 39 29 38, .ia 40 6 36 37, .fa 41 3 40, .st 1 41 39], .o [.m 42 1, .bk
 43 .add false 42 1, .m 1 43], .o [.m 44 0, .m 45 5, .m 46 1, .bk 47 .rem false 46 3, .bk 48 .eql false 47 0, .ia 49 6 44 45, .fa 50 4 49, .st 1 50 48], .o [.m 51 1, .bk 52 .add false 51 1, .m 1 52], .o [.m 53 0, .m 54 5,
 .m 55 1, .c1 56 29 55, .ia 57 6 53 54, .fa 58 5 57, .st 1 58 56], .o [.m 59 1, .bk 60 .add false 59 1, .m 1 60]]), .o [.m 10 5, .bk 11 .add false 10 1, .m 5 11]]))], .o [.m 61 1, .m 4 61], .ret]
def rS_ : LF := ⟨2, 62, c13, [.tmp 4]⟩
theorem sS_ : as_ prog Tryz.f13 rS_ := al_
theorem jv_ (xs : List ByteArray) : ∀ e ∈ xs.map ax_, aB_ [.str] e := by
 intro e he
 obtain ⟨x, _, q⟩ := mem_map.1 he; subst q
 simp only [aB_, aL_, ax_]
 exact ⟨_, _, rfl, ⟨_, rfl⟩, rfl⟩
theorem iK_ (xs : List ByteArray) : aX_ (aU_ [.str]) (xs.map ax_) ≤ 1 * (ar_ ByteArray.size) xs := by
 refine gY_ (fun x => ?_) xs
 simp only [aU_, aK_]
 omega
theorem hl_ (xs : List ByteArray) (hb : (ar_ ByteArray.size) xs ≤ 1048576) : bA_ prog 42 [.list 0 1 (xs.map ax_)] (.list 0 1 (xs.map ax_)) (fun a => ∃ l, a = .own l xs.length) := by
 have hx := Nat.le_trans (bT_ (f := ByteArray.size) (xs := xs)) hb
 refine eY_ mixed Tryz.func42 s8_ rfl (fun h0 => ?_)
 simp (disch := omega) only [rO_, c42, go_sem, reduceCtorEq, ↓reduceIte]
 refine ⟨by omega, by omega, ?_⟩
 refine aJ_ (fun n t h => ∃ k : Nat, t 0 = .list 0 1 (xs.map ax_) ∧ t 3 = .own h0.length xs.length ∧ t 4 = .val (.int .i64 k) ∧ h = h0 ++ [⟨9, 1, by_ (xs.map ax_) [.val (.string (txt []))] k⟩] ∧ n = xs.length - k ∧ k ≤ xs.length) xs.length ?_ ?_
 ·exact ⟨0, rfl, rfl, rfl, by rw [fR_]; simp, rfl, Nat.zero_le _⟩
 ·rintro J hJ n t h ⟨k, t0, t3, t4, rfl, rfl, hk⟩
  have fl : (by_ (xs.map ax_) [.val (.string (txt []))] k).length = xs.length := by rw [eS_ _ _ (by simpa using hk)]; simp
  by_cases hlt : k < xs.length
  ·have fg : (by_ (xs.map ax_) [.val (.string (txt []))] k)[k]? = some [.val (.string (txt []))] := gn_ _ _ (by simpa using hlt)
   have fs := fP_ (xs.map ax_) [.val (.string (txt []))] (ax_ xs[k]) (k := k) (by rw [getElem?_map, getElem?_eq_getElem hlt]; rfl)
   simp (disch := omega) only [t0, t3, t4, hlt, fl, fg, aC_, go_sem, reduceEqDiff, reduceCtorEq, ↓reduceIte, az_]
   try simp (disch := omega) only [fs, go_sem]
   exact ⟨xs.length - (k + 1), by omega, hJ _ _ _ ⟨k + 1, by simp [upd, t0], by simp [upd, t3], by simp [upd], by simp [], rfl, by omega⟩⟩
  ·simp (disch := omega) only [t0, t3, t4, hlt, fl, aC_, go_sem, reduceEqDiff, reduceCtorEq, ↓reduceIte]
   have ff : by_ (xs.map ax_) [.val (.string (txt []))] k = xs.map ax_ := gk_ _ _ (by simp; omega)
   rw [ff]
   refine ⟨_, rfl, (aN_.mkown (lo := h0.length + 1) (hi := h0.length + 1) (bp_.ofVals _ _ _ _ ?_) (by rw [es_]; rfl) (by simp) (Nat.le_refl _) (Nat.lt_succ_self _) (Nat.le_refl _)).fresh, _, rfl⟩
   intro e he c hc
   obtain ⟨x, _, q⟩ := mem_map.1 he; subst q
   simp only [ax_, mem_singleton] at hc
   exact ⟨_, hc⟩
theorem hR_ : gl_ prog 30 aD_ [.str] := by
 refine gl_.of ?_ ?_
 ·intro H k K hK
  refine bg_ mixed Tryz.func30 su_ (b4_ rfl ?_)
  simp (disch := omega) only [sq_, c30, go_sem]
  refine aJ_ (fun n t h => t 0 = .val (.slice none 0 0) ∧ t 1 = .val (.int .i64 k) ∧ t 5 = .val (.int .i64 0) ∧ h = H) 0 ⟨rfl, rfl, rfl, rfl⟩ ?_
  rintro J hJ n t h ⟨t0, t1, t5, rfl⟩
  simp (disch := omega) only [t0, t1, t5, go_sem, reduceEqDiff, reduceCtorEq, Int.reduceLT, ↓reduceIte]
  exact hK
 ·intro l cnt lo hi E rs0 f H0 k K hT hl nd hrl hlo hhi hsh hk hb hK
  refine bg_ mixed Tryz.func30 su_ (b4_ rfl ?_)
  obtain ⟨seg, hseg⟩ : ∃ seg, seg = (rs0.take hi).drop lo := ⟨_, rfl⟩
  rw [← hseg] at hsh hb hK
  have hsl : hi - lo = seg.length := by rw [hseg, length_drop, length_take]; omega
  have hsn : seg.length ≤ aX_ (aU_ [.str]) seg := gx_ (c := aU_ [.str]) (fun e he => by have q := hsh e he; unfold aB_ at q; obtain ⟨c, r, rfl, _, _⟩ := q; simp only [aU_, aK_]; omega)
  simp (disch := omega) only [sq_, c30, go_sem]
  refine aJ_ (fun n t h => ∃ (i : Nat) (rs : List (List AV)), t 0 = .sub l cnt lo hi ∧ t 1 = .val (.int .i64 (aI_ (a9_ aD_ [.str]) (seg.take i) k).2) ∧ t 5 = .val (.int .i64 i) ∧ MT H0 l E 1 cnt f rs h ∧ n = seg.length - i ∧ i ≤ seg.length ∧ rs.length = cnt ∧ (rs.take hi).drop lo = (aI_ (a9_ aD_ [.str]) (seg.take i) k).1 ++ seg.drop i) seg.length ⟨0, rs0, rfl, rfl, rfl, hT, rfl, Nat.zero_le _, hrl, hseg.symm⟩ ?_
  rintro J hJ n t h ⟨i, rs, t0, t1, t5, hM, rfl, hi1, hrl1, hS⟩
  by_cases hlt : i < seg.length
  ·have hA : (aI_ (a9_ aD_ [.str]) (seg.take i) k).1.length = i := by rw [gs_, length_take]; omega
   have hst := j3_ (g := (a9_ aD_ [.str])) (k := k) hlt
   have hcn := h8_ (c := aU_ [.str]) hlt
   have hzz : (aI_ (a9_ aD_ [.str]) (seg.take i) k).2 = k + aX_ (aU_ [.str]) (seg.take i) := da_ (fun x _ k => dm_ [.str] x k) k
   have hj4 : (lo : Int) + (i : Int) < (hi : Int) := by omega
   have hj2 := (ks_ hS hA hlt).2.1
   have hsd := hsh _ (getElem_mem hlt)
   have hss : ∀ d, ((rs.set (lo + i) d).take hi).drop lo = ((aI_ (a9_ aD_ [.str]) (seg.take i) k).1 ++ [d]) ++ seg.drop (i + 1) := fun d => jE_ hS hA hlt
   clear hS hA
   generalize seg[i] = d at hst hcn hj2 hsd
   obtain ⟨z, hz⟩ : ∃ z, z = (aI_ (a9_ aD_ [.str]) (seg.take i) k).2 := ⟨_, rfl⟩
   rw [← hz] at hst hzz t1
   have hz0 : 0 ≤ z := by omega
   unfold aB_ at hsd
   obtain ⟨_, d0, hd0, hc0, hsd⟩ := hsd
   unfold aL_ at hc0
   obtain ⟨s0, rfl⟩ := hc0
   unfold aB_ at hsd
   subst hsd
   subst hd0
   simp only [aU_, aK_, Nat.add_zero] at hcn
   obtain ⟨m, es, e, f2, r1, r2, r3, ho_0, nd2, hl2, hfin⟩ := hM.elem hl nd hj2
   obtain ⟨q0, rfl, ho_1⟩ := ho_0.inv_val
   obtain ⟨rfl, rfl⟩ := ho_1.inv_nil
   have u1 : ∀ r, (h.set l r)[l]? = some r := fun r => getElem?_set_self (List.getElem?_eq_some_iff.1 r1).1
   have u2 : ∀ x, (es.set (lo + i) x)[lo + i]? = some x := fun x => getElem?_set_self (List.getElem?_eq_some_iff.1 r3).1
   simp (disch := omega) only [t0, t1, t5, hlt, hsl, hlo, r1, r2, go_sem, reduceEqDiff, reduceCtorEq, ↓reduceIte]
   refine aa_.call (dh_ (z) (by omega) (by omega) _) ?_
   simp (disch := omega) only [t1, t5, hj4, r1, r2, r3, go_sem, reduceEqDiff, ↓reduceIte]
   refine ⟨seg.length - (i + 1), by omega, hJ _ _ _ ⟨i + 1, rs.set (lo + i) _, by simp [upd, t0], by rw [hst]; simp [upd, a9_, a0_], by simp [upd], hfin _ _ _ ?_ (by first | exact u1 _ | exact u1 _) ?_ ?_, rfl, by omega, by simpa using hrl1, by rw [hst]; exact hss _⟩⟩
   ·simp only [ls_]
   ·intro x hx
    simp only [mem_cons, not_or] at hx
    try rw [getElem?_set_ne (Ne.symm hx.1)]
   ·simp only [a9_, a0_]
    exact ⟨_, (aw_.mk_val _ (aw_.mk_nil (Own _ (0 + 1))))⟩
  ·obtain ⟨m, es, r1, r2, _⟩ := hM.out
   have e1 : seg.take i = seg := take_of_length_le (by omega)
   have e2 : seg.drop i = [] := drop_eq_nil_of_le (by omega)
   rw [e1] at t1 hS
   rw [e2, append_nil] at hS
   simp (disch := omega) only [t0, t1, t5, hlt, hsl, hlo, r1, r2, go_sem, reduceEqDiff, reduceCtorEq, ↓reduceIte]
   exact hK _ rs hM hS
theorem kV_ (es : List (List AV)) (k : Int) (hsh : ∀ e ∈ es, aB_ [.str] e) (hk : 0 ≤ k) (hb : k + aX_ (aU_ [.str]) es ≤ 4611686018427387904) (h : List Row) : aa_ prog 56 [.list 0 1 es, .val (.int .i64 k)] h (.val (.int .i64 (b9_ (b8_ aD_ [.str]) es k))) := by
 refine ah_ mixed Tryz.func56 wS_ rfl rfl ?_ h
 have hsn : es.length ≤ aX_ (aU_ [.str]) es := gx_ (c := aU_ [.str]) (fun e he => by have q := hsh e he; unfold aB_ at q; obtain ⟨c, r, rfl, _, _⟩ := q; simp only [aU_, aK_]; omega)
 simp (disch := omega) only [vf_, c56, go_sem, Int.reduceNeg]
 refine aJ_ (fun n t h => ∃ (i : Nat) (z : Int), t 0 = .list 0 1 es ∧ t 1 = .val (.int .i64 z) ∧ t 5 = .val (.int .i64 i) ∧ n = es.length - i ∧ i ≤ es.length ∧ 0 ≤ z ∧ z + aX_ (aU_ [.str]) (es.drop i) ≤ 4611686018427387904 ∧ b9_ (b8_ aD_ [.str]) es k = b9_ (b8_ aD_ [.str]) (es.drop i) z) es.length ⟨0, k, rfl, rfl, rfl, rfl, Nat.zero_le _, hk, hb, rfl⟩ ?_
 rintro J hJ n t h ⟨i, z, t0, t1, t5, rfl, hi, hz0, hzb, hS⟩
 by_cases hlt : i < es.length
 ·rw [m5_ hlt] at hS
  rw [qn_ hlt] at hzb
  have hsd := hsh _ (getElem_mem hlt)
  obtain ⟨d, hd⟩ : ∃ d, es[i] = d := ⟨_, rfl⟩
  rw [hd] at hS hzb hsd
  have hg : es[i]? = some d := by rw [getElem?_eq_getElem hlt, hd]
  unfold aB_ at hsd
  obtain ⟨_, d0, hd0, hc0, hsd⟩ := hsd
  unfold aL_ at hc0
  obtain ⟨s0, rfl⟩ := hc0
  unfold aB_ at hsd
  subst hsd
  subst hd0
  simp only [aU_, aK_, Nat.add_zero] at hzb
  simp (disch := omega) only [t0, t1, t5, hlt, hg, go_sem, reduceEqDiff, reduceCtorEq, Int.reduceNeg, ↓reduceIte]
  refine aa_.q (dh_ (z) (by omega) (by omega) _) ?_
  by_cases q0 : s0 = aD_ (z)
  case neg =>
   simp (disch := omega) only [q0, go_sem, Int.reduceNeg, ↓reduceIte]
   exact au_ (by rw [hS]; exact (g5_ (by simp (disch := first | assumption | omega) only [lP_])).symm)
  simp (disch := omega) only [t1, t5, q0, go_sem, reduceEqDiff, Int.reduceNeg, ↓reduceIte]
  exact ⟨es.length - (i + 1), by omega, hJ _ _ _ ⟨i + 1, z + 1, by simp [upd, t0], by simp [upd], by simp [upd], rfl, by omega, by omega, by omega, by rw [hS]; exact iR_ (by simp (disch := first | assumption | omega) only [mZ_, mG_]) (by omega)⟩⟩
 ·simp (disch := omega) only [t0, t1, t5, hlt, go_sem, reduceEqDiff, reduceCtorEq, Int.reduceNeg, ↓reduceIte]
  exact au_ (by rw [hS, drop_eq_nil_of_le (by omega)]; rfl)
theorem tC_ (x : ao_) : aB_ [.int, .str] (ao_.cells x) := by
 simp only [ao_.cells, aB_, aL_]
 exact ⟨_, _, rfl, ⟨_, rfl⟩, ⟨_, _, rfl, ⟨_, rfl⟩, rfl⟩⟩
theorem n5_ (x : ao_) (hb : ao_.sz x ≤ 1048576) : bA_ prog 69 [.agg (ao_.cells x)] (.agg (ao_.cells x)) (fun a => a = .agg [.val (.int .i64 x.At), .val (.string x.Bytes)]) := by
 have hsz : ao_.sz x = ByteArray.size x.Bytes := rfl
 refine eY_ mixed Tryz.func69 s4_ rfl (fun h0 => ?_)
 simp (disch := omega) only [ru_, c69, ao_.cells, go_sem, reduceEqDiff, Nat.reduceAdd, reduceLeDiff, ↓reduceIte, cC_]
 exact ⟨_, rfl, hh_ (at_.val _ (at_.val _ (at_.nil _ _ _)))⟩
theorem qZ_ (xs : List ao_) : ∀ e ∈ xs.map ao_.cells, aB_ [.int, .str] e := by
 intro e he
 obtain ⟨x, _, q⟩ := mem_map.1 he; subst q
 exact tC_ x
theorem qN_ (xs : List ao_) : aX_ (aU_ [.int, .str]) (xs.map ao_.cells) ≤ 2 * (ar_ ao_.sz) xs := by
 refine gY_ (fun x => ?_) xs
 have hsz0 : ∀ y : ao_, ao_.sz y = ByteArray.size y.Bytes := fun _ => rfl
 simp only [hsz0] at *
 simp only [ao_.cells, aU_, aK_]
 omega
theorem m6_ (xs : List ao_) (hb : (ar_ ao_.sz) xs ≤ 1048576) : bA_ prog 43 [.list 0 2 (xs.map ao_.cells)] (.list 0 2 (xs.map ao_.cells)) (fun a => ∃ l, a = .own l xs.length) := by
 have hx := Nat.le_trans (bT_ (f := ao_.sz) (xs := xs)) hb
 refine eY_ mixed Tryz.func43 sN_ rfl (fun h0 => ?_)
 simp (disch := omega) only [sj_, c43, go_sem, reduceCtorEq, ↓reduceIte]
 refine ⟨by omega, by omega, ?_⟩
 refine aJ_ (fun n t h => ∃ (k : Nat) (done : List (List AV)) (rest : List Row), t 0 = .list 0 2 (xs.map ao_.cells) ∧ t 3 = .own h0.length xs.length ∧ t 4 = .val (.int .i64 k) ∧ h = h0 ++ ⟨87, 2, done ++ List.replicate (xs.length - k) ([.val (.int .i64 0), .val (.string (txt []))] : List AV)⟩ :: rest ∧ n = xs.length - k ∧ k ≤ xs.length ∧ done.length = k ∧ bp_ (h0.length + 1) h.length h done ((xs.take k).map ao_.cells)) xs.length ?_ ?_
 ·exact ⟨0, [], [], rfl, rfl, rfl, by simp, rfl, Nat.zero_le _, rfl, .nil _ _ _⟩
 ·rintro J hJ n t h ⟨k, done, rest, t0, t3, t4, rfl, rfl, hk, hd, hF⟩
  have fl : (done ++ List.replicate (xs.length - k) ([.val (.int .i64 0), .val (.string (txt []))] : List AV)).length = xs.length := by simp; omega
  by_cases hlt : k < xs.length
  ·have e1 : xs.length - k = (xs.length - (k + 1)) + 1 := by omega
   have fg : (done ++ List.replicate (xs.length - k) ([.val (.int .i64 0), .val (.string (txt []))] : List AV))[k]? = some [.val (.int .i64 0), .val (.string (txt []))] := by rw [getElem?_append_right (by omega), hd, Nat.sub_self, e1]; rfl
   have fs : ∀ c : List AV, (done ++ List.replicate (xs.length - k) ([.val (.int .i64 0), .val (.string (txt []))] : List AV)).set k c = (done ++ [c]) ++ List.replicate (xs.length - (k + 1)) ([.val (.int .i64 0), .val (.string (txt []))] : List AV) := by
    intro c; rw [set_append_right _ _ (by omega), hd, Nat.sub_self, e1, replicate_succ, set_cons_zero, append_assoc]; rfl
   simp (disch := omega) only [t0, t3, t4, hlt, ao_.cells, aC_, go_sem, reduceEqDiff, Nat.reduceAdd, reduceCtorEq, ↓reduceIte]
   refine n5_ xs[k] (by have := dg_ (f := ao_.sz) (getElem_mem hlt); omega) _ _ (fun av hn hf hq => ?_)
   obtain rfl := hq
   simp (disch := omega) only [t4, hlt, fl, fg, fs, go_sem, reduceEqDiff, Nat.reduceAdd, ↓reduceIte, az_]
   refine ⟨xs.length - (k + 1), by omega, hJ _ _ _ ⟨k + 1, done ++ [[.val (.int .i64 xs[k].At), .val (.string xs[k].Bytes)]], rest ++ hn, by simp [upd, t0], by simp [upd, t3], by simp [upd], by simp, rfl, by omega, by simp [hd], ?_⟩⟩
   rw [take_succ_eq_append_getElem hlt, map_append]
   have hz := jz_ (r' := ⟨87, 2, (done ++ [[.val (.int .i64 xs[k].At), .val (.string xs[k].Bytes)]]) ++ List.replicate (xs.length - (k + 1)) ([.val (.int .i64 0), .val (.string (txt []))] : List AV)⟩) hF hf
   first | exact hz | simpa using hz
  ·simp (disch := omega) only [t0, t3, t4, hlt, aC_, go_sem, reduceEqDiff, reduceCtorEq, ↓reduceIte]
   have e1 : xs.length - k = 0 := by omega
   rw [e1, replicate_zero, append_nil, take_of_length_le (by omega)] at hF
   rw [e1, replicate_zero, append_nil]
   exact ⟨_, rfl, kb_ hF (by omega), _, rfl⟩
theorem of_ : gl_ prog 55 aD_ [.int, .str] := by
 refine gl_.of ?_ ?_
 ·intro H k K hK
  refine bg_ mixed Tryz.func55 s0_ (b4_ rfl ?_)
  simp (disch := omega) only [rN_, c55, go_sem]
  refine aJ_ (fun n t h => t 0 = .val (.slice none 0 0) ∧ t 1 = .val (.int .i64 k) ∧ t 5 = .val (.int .i64 0) ∧ h = H) 0 ⟨rfl, rfl, rfl, rfl⟩ ?_
  rintro J hJ n t h ⟨t0, t1, t5, rfl⟩
  simp (disch := omega) only [t0, t1, t5, go_sem, reduceEqDiff, reduceCtorEq, Int.reduceLT, ↓reduceIte]
  exact hK
 ·intro l cnt lo hi E rs0 f H0 k K hT hl nd hrl hlo hhi hsh hk hb hK
  refine bg_ mixed Tryz.func55 s0_ (b4_ rfl ?_)
  obtain ⟨seg, hseg⟩ : ∃ seg, seg = (rs0.take hi).drop lo := ⟨_, rfl⟩
  rw [← hseg] at hsh hb hK
  have hsl : hi - lo = seg.length := by rw [hseg, length_drop, length_take]; omega
  have hsn : seg.length ≤ aX_ (aU_ [.int, .str]) seg := gx_ (c := aU_ [.int, .str]) (fun e he => by have q := hsh e he; unfold aB_ at q; obtain ⟨c, r, rfl, _, _⟩ := q; simp only [aU_, aK_]; omega)
  simp (disch := omega) only [rN_, c55, go_sem]
  refine aJ_ (fun n t h => ∃ (i : Nat) (rs : List (List AV)), t 0 = .sub l cnt lo hi ∧ t 1 = .val (.int .i64 (aI_ (a9_ aD_ [.int, .str]) (seg.take i) k).2) ∧ t 5 = .val (.int .i64 i) ∧ MT H0 l E 2 cnt f rs h ∧ n = seg.length - i ∧ i ≤ seg.length ∧ rs.length = cnt ∧ (rs.take hi).drop lo = (aI_ (a9_ aD_ [.int, .str]) (seg.take i) k).1 ++ seg.drop i) seg.length ⟨0, rs0, rfl, rfl, rfl, hT, rfl, Nat.zero_le _, hrl, hseg.symm⟩ ?_
  rintro J hJ n t h ⟨i, rs, t0, t1, t5, hM, rfl, hi1, hrl1, hS⟩
  by_cases hlt : i < seg.length
  ·have hA : (aI_ (a9_ aD_ [.int, .str]) (seg.take i) k).1.length = i := by rw [gs_, length_take]; omega
   have hst := j3_ (g := (a9_ aD_ [.int, .str])) (k := k) hlt
   have hcn := h8_ (c := aU_ [.int, .str]) hlt
   have hzz : (aI_ (a9_ aD_ [.int, .str]) (seg.take i) k).2 = k + aX_ (aU_ [.int, .str]) (seg.take i) := da_ (fun x _ k => dm_ [.int, .str] x k) k
   have hj4 : (lo : Int) + (i : Int) < (hi : Int) := by omega
   have hj2 := (ks_ hS hA hlt).2.1
   have hsd := hsh _ (getElem_mem hlt)
   have hss : ∀ d, ((rs.set (lo + i) d).take hi).drop lo = ((aI_ (a9_ aD_ [.int, .str]) (seg.take i) k).1 ++ [d]) ++ seg.drop (i + 1) := fun d => jE_ hS hA hlt
   clear hS hA
   generalize seg[i] = d at hst hcn hj2 hsd
   obtain ⟨z, hz⟩ : ∃ z, z = (aI_ (a9_ aD_ [.int, .str]) (seg.take i) k).2 := ⟨_, rfl⟩
   rw [← hz] at hst hzz t1
   have hz0 : 0 ≤ z := by omega
   unfold aB_ at hsd
   obtain ⟨_, d0, hd0, hc0, hsd⟩ := hsd
   unfold aL_ at hc0
   obtain ⟨n0, rfl⟩ := hc0
   unfold aB_ at hsd
   obtain ⟨_, d1, hd1, hc1, hsd⟩ := hsd
   unfold aL_ at hc1
   obtain ⟨s1, rfl⟩ := hc1
   unfold aB_ at hsd
   subst hsd
   subst hd1
   subst hd0
   simp only [aU_, aK_, Nat.add_zero] at hcn
   obtain ⟨m, es, e, f2, r1, r2, r3, ho_0, nd2, hl2, hfin⟩ := hM.elem hl nd hj2
   obtain ⟨q0, rfl, ho_1⟩ := ho_0.inv_val
   obtain ⟨q1, rfl, ho_2⟩ := ho_1.inv_val
   obtain ⟨rfl, rfl⟩ := ho_2.inv_nil
   have u1 : ∀ r, (h.set l r)[l]? = some r := fun r => getElem?_set_self (List.getElem?_eq_some_iff.1 r1).1
   have u2 : ∀ x, (es.set (lo + i) x)[lo + i]? = some x := fun x => getElem?_set_self (List.getElem?_eq_some_iff.1 r3).1
   simp (disch := omega) only [t0, t1, t5, hlt, hsl, hj4, hlo, r1, r2, r3, go_sem, reduceEqDiff, Nat.reduceAdd, reduceLeDiff, reduceCtorEq, ↓reduceIte]
   refine aa_.call (dh_ (z + 1) (by omega) (by omega) _) ?_
   simp (disch := omega) only [t5, hj4, r2, u1, u2, ls_, set_set, go_sem, reduceEqDiff, Nat.reduceAdd, ↓reduceIte]
   refine ⟨seg.length - (i + 1), by omega, hJ _ _ _ ⟨i + 1, rs.set (lo + i) _, by simp [upd, t0], by rw [hst]; simp [upd, a9_, a0_], by simp [upd], hfin _ _ _ ?_ (by first | exact u1 _ | exact u1 _) ?_ ?_, rfl, by omega, by simpa using hrl1, by rw [hst]; exact hss _⟩⟩
   ·simp only [ls_]
   ·intro x hx
    simp only [mem_cons, not_or] at hx
    try rw [getElem?_set_ne (Ne.symm hx.1)]
   ·simp only [a9_, a0_]
    exact ⟨_, (aw_.mk_val _ (aw_.mk_val _ (aw_.mk_nil (Own _ (0 + 1)))))⟩
  ·obtain ⟨m, es, r1, r2, _⟩ := hM.out
   have e1 : seg.take i = seg := take_of_length_le (by omega)
   have e2 : seg.drop i = [] := drop_eq_nil_of_le (by omega)
   rw [e1] at t1 hS
   rw [e2, append_nil] at hS
   simp (disch := omega) only [t0, t1, t5, hlt, hsl, hlo, r1, r2, go_sem, reduceEqDiff, reduceCtorEq, ↓reduceIte]
   exact hK _ rs hM hS
theorem og_ (es : List (List AV)) (k : Int) (hsh : ∀ e ∈ es, aB_ [.int, .str] e) (hk : 0 ≤ k) (hb : k + aX_ (aU_ [.int, .str]) es ≤ 4611686018427387904) (h : List Row) : aa_ prog 57 [.list 0 2 es, .val (.int .i64 k)] h (.val (.int .i64 (b9_ (b8_ aD_ [.int, .str]) es k))) := by
 refine ah_ mixed Tryz.func57 xA_ rfl rfl ?_ h
 have hsn : es.length ≤ aX_ (aU_ [.int, .str]) es := gx_ (c := aU_ [.int, .str]) (fun e he => by have q := hsh e he; unfold aB_ at q; obtain ⟨c, r, rfl, _, _⟩ := q; simp only [aU_, aK_]; omega)
 simp (disch := omega) only [uo_, c57, go_sem, Int.reduceNeg]
 refine aJ_ (fun n t h => ∃ (i : Nat) (z : Int), t 0 = .list 0 2 es ∧ t 1 = .val (.int .i64 z) ∧ t 5 = .val (.int .i64 i) ∧ n = es.length - i ∧ i ≤ es.length ∧ 0 ≤ z ∧ z + aX_ (aU_ [.int, .str]) (es.drop i) ≤ 4611686018427387904 ∧ b9_ (b8_ aD_ [.int, .str]) es k = b9_ (b8_ aD_ [.int, .str]) (es.drop i) z) es.length ⟨0, k, rfl, rfl, rfl, rfl, Nat.zero_le _, hk, hb, rfl⟩ ?_
 rintro J hJ n t h ⟨i, z, t0, t1, t5, rfl, hi, hz0, hzb, hS⟩
 by_cases hlt : i < es.length
 ·rw [m5_ hlt] at hS
  rw [qn_ hlt] at hzb
  have hsd := hsh _ (getElem_mem hlt)
  obtain ⟨d, hd⟩ : ∃ d, es[i] = d := ⟨_, rfl⟩
  rw [hd] at hS hzb hsd
  have hg : es[i]? = some d := by rw [getElem?_eq_getElem hlt, hd]
  unfold aB_ at hsd
  obtain ⟨_, d0, hd0, hc0, hsd⟩ := hsd
  unfold aL_ at hc0
  obtain ⟨n0, rfl⟩ := hc0
  unfold aB_ at hsd
  obtain ⟨_, d1, hd1, hc1, hsd⟩ := hsd
  unfold aL_ at hc1
  obtain ⟨s1, rfl⟩ := hc1
  unfold aB_ at hsd
  subst hsd
  subst hd1
  subst hd0
  simp only [aU_, aK_, Nat.add_zero] at hzb
  simp (disch := omega) only [t0, t1, t5, hlt, hg, go_sem, reduceEqDiff, Nat.reduceAdd, reduceCtorEq, Int.reduceNeg, ↓reduceIte]
  by_cases q0 : n0 = z
  case neg =>
   simp (disch := omega) only [q0, go_sem, Int.reduceNeg, ↓reduceIte]
   exact au_ (by rw [hS]; exact (g5_ (by simp (disch := first | assumption | omega) only [pZ_])).symm)
  simp (disch := omega) only [t0, t1, t5, hg, q0, go_sem, reduceEqDiff, Nat.reduceAdd, reduceLeDiff, reduceCtorEq, Int.reduceNeg, ↓reduceIte]
  refine aa_.q (dh_ (z + 1) (by omega) (by omega) _) ?_
  by_cases q1 : s1 = aD_ (z + 1)
  case neg =>
   simp (disch := omega) only [q1, go_sem, Int.reduceNeg, ↓reduceIte]
   exact au_ (by rw [hS]; exact (g5_ (by simp (disch := first | assumption | omega) only [ns_, lP_])).symm)
  simp (disch := omega) only [t5, q1, go_sem, reduceEqDiff, Int.reduceNeg, ↓reduceIte]
  exact ⟨es.length - (i + 1), by omega, hJ _ _ _ ⟨i + 1, z + 1 + 1, by simp [upd, t0], by simp [upd], by simp [upd], rfl, by omega, by omega, by omega, by rw [hS]; exact iR_ (by simp (disch := first | assumption | omega) only [ns_, mZ_, mG_]) (by omega)⟩⟩
 ·simp (disch := omega) only [t0, t1, t5, hlt, go_sem, reduceEqDiff, reduceCtorEq, Int.reduceNeg, ↓reduceIte]
  exact au_ (by rw [hS, drop_eq_nil_of_le (by omega)]; rfl)
theorem ny_ (x : aq_) (hb : aq_.sz x ≤ 1048576) : bA_ prog 20 [.agg (aq_.cells x)] (.agg (aq_.cells x)) (fun a => ∃ l_Sectors l_Puts, a = .agg [.val (.int .i64 x.Wide), .own l_Sectors (x.Sectors).length, .own l_Puts (x.Puts).length]) := by
 have hsz : aq_.sz x = (ar_ ByteArray.size) x.Sectors + (ar_ ao_.sz) x.Puts := rfl
 refine eY_ mixed Tryz.func20 sD_ rfl (fun h0 => ?_)
 simp (disch := omega) only [rG_, c20, aq_.cells, go_sem, reduceEqDiff, Nat.reduceAdd, reduceLeDiff, ↓reduceIte]
 refine hl_ x.Sectors (by omega) _ _ (fun av1 hn1 hf1 hq1 => ?_)
 obtain ⟨l_Sectors, rfl⟩ := hq1
 simp (disch := omega) only [go_sem, reduceEqDiff, Nat.reduceAdd, reduceLeDiff, ↓reduceIte]
 refine m6_ x.Puts (by omega) _ _ (fun av2 hn2 hf2 hq2 => ?_)
 obtain ⟨l_Puts, rfl⟩ := hq2
 simp (disch := omega) only [go_sem, reduceEqDiff, Nat.reduceAdd, ↓reduceIte, cC_]
 exact ⟨_, rfl, hh_ (at_.val _ (at_.cons ((hf1.b.keep fun l q1 q2 => oV_ (t := hn2) (by simp) q1 q2).widen (by first | omega | (simp; done) | (simp; omega)) (Nat.le_refl _)) (at_.cons ((hf2.b.keep fun l q1 q2 => oV_ (t := []) (by simp) q1 q2).widen (by first | omega | (simp; done) | (simp; omega)) (Nat.le_refl _)) (at_.nil _ _ _) ⟨(by first | omega | (simp; done) | (simp; omega)), (by first | omega | (simp; done) | (simp; omega))⟩) ⟨(by first | omega | (simp; done) | (simp; omega)), (by first | omega | (simp; done) | (simp; omega))⟩)), l_Sectors, l_Puts, rfl⟩
theorem n0_ : pR_ prog 28 aD_ [.int, .list [.str], .list [.int, .str]] := by
 intro m cs ds f H k K ho_0 nd hsh hk hb hK
 unfold aB_ at hsh
 obtain ⟨_, d0, hd0, hc0, hsh⟩ := hsh
 unfold aL_ at hc0
 obtain ⟨n0, rfl⟩ := hc0
 unfold aB_ at hsh
 obtain ⟨_, d1, hd1, hc1, hsh⟩ := hsh
 unfold aL_ at hc1
 obtain ⟨e1, rfl, hc1⟩ := hc1
 unfold aB_ at hsh
 obtain ⟨_, d2, hd2, hc2, hsh⟩ := hsh
 unfold aL_ at hc2
 obtain ⟨e2, rfl, hc2⟩ := hc2
 unfold aB_ at hsh
 subst hsh
 subst hd2
 subst hd1
 subst hd0
 simp only [bn_, aK_, Nat.add_zero] at hb
 have hlt : ∀ x ∈ f, x < H.length := fun x hx => by
  obtain ⟨row, _, _, _, q, _⟩ := aw_.inner (fun a r f ho => Own.inner ho) ho_0 x hx
  exact (List.getElem?_eq_some_iff.1 q).1
 obtain ⟨q0, rfl, ho_1⟩ := ho_0.inv_val
 obtain ⟨c1, q1, g1, w1, rfl, rfl, hw1, ho_2⟩ := ho_1.inv_cons
 obtain ⟨c2, q2, g2, w2, rfl, rfl, hw2, ho_3⟩ := ho_2.inv_cons
 obtain ⟨rfl, rfl⟩ := ho_3.inv_nil
 simp only [nodup_append, mem_append, append_nil] at nd hlt
 have nd_1 : g1.Nodup := by first | exact nd | exact nd.1 | exact nd.2.1 | (simp_all; done)
 have hl_1 : ∀ x ∈ g1, x < H.length := fun x hx => hlt x (by simp [hx])
 have cc1 := hw1.cell_list
 simp only [AV.cell, Value.oneCell'] at cc1
 have nd_2 : g2.Nodup := by first | exact nd | exact nd.1 | exact nd.2.1 | (simp_all; done)
 have hl_2 : ∀ x ∈ g2, x < H.length := fun x hx => hlt x (by simp [hx])
 have cc2 := hw2.cell_list
 simp only [AV.cell, Value.oneCell'] at cc2
 refine bg_ mixed Tryz.func28 xf_ (b4_ rfl ?_)
 simp (disch := omega) only [u6_, c28, cc1, cc2, go_sem, reduceEqDiff, Nat.reduceAdd, ↓reduceIte]
 refine hR_ _ c1 e1 g1 _ (k) _ (hw1.keep fun x hx => ?_) nd_1 hc1 (by omega) (by omega) (fun H1 m1 x1 y1 v1 => ?_)
 ·exact getElem?_append_left (hl_1 x hx)
 have hq1 : (aI_ (a9_ aD_ [.str]) e1 (k)).2 = k + (aX_ (aU_ [.str]) e1 : Nat) := da_ (fun x _ k => dm_ _ x k) _
 have p1 := (y1 H.length (fun hq => by have := hl_1 _ hq; omega)).trans (es_ _ _)
 simp (disch := omega) only [p1, go_sem, reduceEqDiff, ↓reduceIte]
 refine of_ _ c2 e2 g2 _ ((aI_ (a9_ aD_ [.str]) e1 (k)).2) _ (hw2.keep fun x hx => ?_) nd_2 hc2 (by omega) (by omega) (fun H2 m2 x2 y2 v2 => ?_)
 ·rw [y1 x (by intro hq; first | (simp_all; done) | exact nd.2.2 _ hq _ hx rfl | exact nd.2.2 _ hx _ hq rfl | grind)]; exact getElem?_append_left (hl_2 x hx)
 have hq2 : (aI_ (a9_ aD_ [.int, .str]) e2 ((aI_ (a9_ aD_ [.str]) e1 (k)).2)).2 = (aI_ (a9_ aD_ [.str]) e1 (k)).2 + (aX_ (aU_ [.int, .str]) e2 : Nat) := da_ (fun x _ k => dm_ _ x k) _
 have p2 := (y2 H.length (fun hq => by have := hl_2 _ hq; omega)).trans (by first | exact es_ _ _ | exact p1)
 simp (disch := omega) only [go_sem, ↓reduceIte]
 have hfr : ∀ x, x < H.length → x ∉ (g1 ++ g2) → H2[x]? = H[x]? := by
  intro x hx hxf
  try simp only [mem_append, not_or] at hxf
  rw [y2 x (by intro hq; first | (simp_all; done) | exact nd.2.2 _ hq _ hx rfl | exact nd.2.2 _ hx _ hq rfl | grind)]
  rw [y1 x (by intro hq; first | (simp_all; done) | exact nd.2.2 _ hq _ hx rfl | exact nd.2.2 _ hx _ hq rfl | grind)]
  exact getElem?_append_left hx
 have hfin := hK H2 (by simp only [x2, x1, la_]; omega) (fun x hx hxf => hfr x hx (by simpa using hxf)) (by simp only [aY_, a0_]; exact ⟨_, (aw_.mk_val _ (aw_.mk_list (v1.keep fun x hx => by rw [y2 x (by intro hq; first | (simp_all; done) | exact nd.2.2 _ hq _ hx rfl | exact nd.2.2 _ hx _ hq rfl | grind)]) (aw_.mk_list (v2.keep fun x hx => by rfl) (aw_.mk_nil (Own _ (0 + 1))))))⟩)
 simp only [aY_, a0_] at hfin
 exact hfin
theorem n7_ (ds : List AV) (k : Int) (hsh : aB_ [.int, .list [.str], .list [.int, .str]] ds) (hp : ds.all AV.flat = true) (hk : 0 ≤ k) (hb : k + bn_ [.int, .list [.str], .list [.int, .str]] ds ≤ 4611686018427387904) (h : List Row) : aa_ prog 31 [.agg ds, .val (.int .i64 k)] h (.val (.int .i64 (cA_ aD_ [.int, .list [.str], .list [.int, .str]] ds k))) := by
 unfold aB_ at hsh
 obtain ⟨_, d0, hd0, hc0, hsh⟩ := hsh
 unfold aL_ at hc0
 obtain ⟨n0, rfl⟩ := hc0
 unfold aB_ at hsh
 obtain ⟨_, d1, hd1, hc1, hsh⟩ := hsh
 unfold aL_ at hc1
 obtain ⟨e1, rfl, hc1⟩ := hc1
 unfold aB_ at hsh
 obtain ⟨_, d2, hd2, hc2, hsh⟩ := hsh
 unfold aL_ at hc2
 obtain ⟨e2, rfl, hc2⟩ := hc2
 unfold aB_ at hsh
 subst hsh
 subst hd2
 subst hd1
 subst hd0
 refine ah_ mixed Tryz.func31 wG_ rfl (by simp only [all_cons, all_nil, AV.plain, hp]; rfl) ?_ h
 simp only [bn_, aK_, Nat.add_zero] at hb
 simp (disch := omega) only [vV_, c31, go_sem, reduceEqDiff, Nat.reduceAdd, Int.reduceNeg, ↓reduceIte]
 refine aa_.call (kV_ e1 (k) hc1 (by omega) (by omega) _) ?_
 have hq1 := jD_ (c := aU_ [.str]) (fun e he k hk => jd_ (mt := aD_) [.str] e k (hc1 e he) hk) (k) (by omega)
 by_cases q1 : (b9_ (b8_ aD_ [.str]) e1 (k)) < 0
 ·simp (disch := omega) only [q1, go_sem, Int.reduceNeg, ↓reduceIte]
  exact au_ (by simp only [cA_, bx_, *, if_true])
 simp (disch := omega) only [q1, go_sem, reduceEqDiff, Int.reduceNeg, ↓reduceIte]
 refine aa_.call (og_ e2 ((b9_ (b8_ aD_ [.str]) e1 (k))) hc2 (by omega) (by omega) _) ?_
 have hq2 := jD_ (c := aU_ [.int, .str]) (fun e he k hk => jd_ (mt := aD_) [.int, .str] e k (hc2 e he) hk) ((b9_ (b8_ aD_ [.str]) e1 (k))) (by omega)
 by_cases q2 : (b9_ (b8_ aD_ [.int, .str]) e2 ((b9_ (b8_ aD_ [.str]) e1 (k)))) < 0
 ·simp (disch := omega) only [q2, go_sem, Int.reduceNeg, ↓reduceIte]
  exact au_ (by simp only [cA_, bx_, *, if_true, if_false])
 simp (disch := omega) only [q2, go_sem, reduceEqDiff, Int.reduceNeg, ↓reduceIte]
 exact au_ (by simp only [cA_, bx_, *, if_false])
theorem jr_ (x : ac_) : aB_ [.int, .list [.str], .list [.int, .str], .int, .int, .int, .int] (ac_.cells x) := by
 simp only [ac_.cells, aB_, aL_]
 exact ⟨_, _, rfl, ⟨_, rfl⟩, ⟨_, _, rfl, ⟨_, rfl, jv_ _⟩, ⟨_, _, rfl, ⟨_, rfl, qZ_ _⟩, ⟨_, _, rfl, ⟨_, rfl⟩, ⟨_, _, rfl, ⟨_, rfl⟩, ⟨_, _, rfl, ⟨_, rfl⟩, ⟨_, _, rfl, ⟨_, rfl⟩, rfl⟩⟩⟩⟩⟩⟩⟩
theorem g9_ (x : ac_) (hb : ac_.sz x ≤ 1048576) : bn_ [.int, .list [.str], .list [.int, .str], .int, .int, .int, .int] (ac_.cells x) ≤ 8 * 1048576 := by
 have c0 := iK_ (x.Disk.Sectors)
 have c1 := qN_ (x.Disk.Puts)
 have hsz0 : ∀ y : ac_, ac_.sz y = aq_.sz y.Disk := fun _ => rfl
 have hsz1 : ∀ y : aq_, aq_.sz y = (ar_ ByteArray.size) y.Sectors + (ar_ ao_.sz) y.Puts := fun _ => rfl
 simp only [hsz0, hsz1] at *
 simp only [ac_.cells, bn_, aK_]
 omega
theorem kB_ (x : ac_) (hb : ac_.sz x ≤ 1048576) : bA_ prog 7 [.agg (ac_.cells x)] (.agg (ac_.cells x)) (fun a => ∃ l_Disk_Sectors l_Disk_Puts, a = .agg [.val (.int .i64 x.Disk.Wide), .own l_Disk_Sectors (x.Disk.Sectors).length, .own l_Disk_Puts (x.Disk.Puts).length, .val (.int .i64 x.Life), .val (.int .i64 x.From), .val (.int .i64 x.Last), .val (.int .i64 x.At)]) := by
 have hsz : ac_.sz x = aq_.sz x.Disk := rfl
 refine eY_ mixed Tryz.func7 t7_ rfl (fun h0 => ?_)
 simp (disch := omega) only [lf7, c7, ac_.cells, go_sem, reduceEqDiff, Nat.reduceAdd, reduceLeDiff, ↓reduceIte]
 refine ny_ x.Disk (by omega) _ _ (fun av1 hn1 hf1 hq1 => ?_)
 obtain ⟨l_Disk_Sectors, l_Disk_Puts, rfl⟩ := hq1
 simp (disch := omega) only [go_sem, reduceEqDiff, Nat.reduceAdd, reduceLeDiff, ↓reduceIte, cC_]
 exact ⟨_, rfl, hh_ (at_.app ((hf1.b.unagg.keep fun l q1 q2 => oV_ (t := []) (by simp) q1 q2).widen (by first | omega | (simp; done) | (simp; omega)) (Nat.le_refl _)) (at_.val _ (at_.val _ (at_.val _ (at_.val _ (at_.nil _ _ _))))) ⟨(by first | omega | (simp; done) | (simp; omega)), (by first | omega | (simp; done) | (simp; omega))⟩), l_Disk_Sectors, l_Disk_Puts, rfl⟩
theorem np_ {R : AV → AV → List Nat → Prop} : ∀ {cs ds : List AV} {f : List Nat}, aw_ R cs ds f → ∀ {cs' ds' : List AV}, aw_ R cs' ds' [] → aw_ R (cs ++ cs') (ds ++ ds') f
 | [], ds, f, h, cs', ds', h' => by obtain ⟨rfl, rfl⟩ := h; exact h'
 | c :: cs, ds, f, h, cs', ds', h' => by
  obtain ⟨r, rs, f1, f2, rfl, rfl, h1, h2⟩ := h
  exact ⟨r, rs ++ ds', f1, f2, rfl, rfl, h1, np_ h2 h'⟩
theorem hO_ : pR_ prog 12 aD_ [.int, .list [.str], .list [.int, .str], .int, .int, .int, .int] := by
 intro m cs ds f H k K ho_0 nd hsh hk hb hK
 unfold aB_ at hsh
 obtain ⟨_, d0, hd0, hc0, hsh⟩ := hsh
 unfold aL_ at hc0
 obtain ⟨n0, rfl⟩ := hc0
 unfold aB_ at hsh
 obtain ⟨_, d1, hd1, hc1, hsh⟩ := hsh
 unfold aL_ at hc1
 obtain ⟨e1, rfl, hc1⟩ := hc1
 unfold aB_ at hsh
 obtain ⟨_, d2, hd2, hc2, hsh⟩ := hsh
 unfold aL_ at hc2
 obtain ⟨e2, rfl, hc2⟩ := hc2
 unfold aB_ at hsh
 obtain ⟨_, d3, hd3, hc3, hsh⟩ := hsh
 unfold aL_ at hc3
 obtain ⟨n3, rfl⟩ := hc3
 unfold aB_ at hsh
 obtain ⟨_, d4, hd4, hc4, hsh⟩ := hsh
 unfold aL_ at hc4
 obtain ⟨n4, rfl⟩ := hc4
 unfold aB_ at hsh
 obtain ⟨_, d5, hd5, hc5, hsh⟩ := hsh
 unfold aL_ at hc5
 obtain ⟨n5, rfl⟩ := hc5
 unfold aB_ at hsh
 obtain ⟨_, d6, hd6, hc6, hsh⟩ := hsh
 unfold aL_ at hc6
 obtain ⟨n6, rfl⟩ := hc6
 unfold aB_ at hsh
 subst hsh
 subst hd6
 subst hd5
 subst hd4
 subst hd3
 subst hd2
 subst hd1
 subst hd0
 simp only [bn_, aK_, Nat.add_zero] at hb
 have hlt : ∀ x ∈ f, x < H.length := fun x hx => by
  obtain ⟨row, _, _, _, q, _⟩ := aw_.inner (fun a r f ho => Own.inner ho) ho_0 x hx
  exact (List.getElem?_eq_some_iff.1 q).1
 obtain ⟨q0, rfl, ho_1⟩ := ho_0.inv_val
 obtain ⟨c1, q1, g1, w1, rfl, rfl, hw1, ho_2⟩ := ho_1.inv_cons
 obtain ⟨c2, q2, g2, w2, rfl, rfl, hw2, ho_3⟩ := ho_2.inv_cons
 obtain ⟨q3, rfl, ho_4⟩ := ho_3.inv_val
 obtain ⟨q4, rfl, ho_5⟩ := ho_4.inv_val
 obtain ⟨q5, rfl, ho_6⟩ := ho_5.inv_val
 obtain ⟨q6, rfl, ho_7⟩ := ho_6.inv_val
 obtain ⟨rfl, rfl⟩ := ho_7.inv_nil
 have nd0 := nd
 simp only [nodup_append, mem_append, append_nil] at nd hlt
 have nd_1 : g1.Nodup := by first | exact nd | exact nd.1 | exact nd.2.1 | (simp_all; done)
 have hl_1 : ∀ x ∈ g1, x < H.length := fun x hx => hlt x (by simp [hx])
 have cc1 := hw1.cell_list
 simp only [AV.cell, Value.oneCell'] at cc1
 have nd_2 : g2.Nodup := by first | exact nd | exact nd.1 | exact nd.2.1 | (simp_all; done)
 have hl_2 : ∀ x ∈ g2, x < H.length := fun x hx => hlt x (by simp [hx])
 have cc2 := hw2.cell_list
 simp only [AV.cell, Value.oneCell'] at cc2
 refine bg_ mixed Tryz.func12 wL_ (b4_ rfl ?_)
 simp (disch := omega) only [uq_, c12, cc1, cc2, go_sem, reduceEqDiff, Nat.reduceAdd, reduceLeDiff, ↓reduceIte]
 refine n0_ _ [.val (.int .i64 n0), c1, c2] [.val (.int .i64 n0), .list 0 1 e1, .list 0 2 e2] (g1 ++ (g2 ++ [])) _ k _ (aw_.mk_val _ (aw_.mk_list (hw1.keep fun x hx => getElem?_append_left (hl_1 x hx)) (aw_.mk_list (hw2.keep fun x hx => getElem?_append_left (hl_2 x hx)) (aw_.mk_nil (Own _ (0 + 1)))))) (by simpa using nd0) (by simp only [aB_, aL_]; exact ⟨_, _, rfl, ⟨_, rfl⟩, ⟨_, _, rfl, ⟨_, rfl, hc1⟩, ⟨_, _, rfl, ⟨_, rfl, hc2⟩, rfl⟩⟩⟩) hk (by simp only [bn_, aK_, Nat.add_zero]; omega) (fun H1 x1 y1 v1 => ?_)
 simp only [la_, lc_, ln_] at x1 y1
 have p1 := (y1 H.length (by omega) (fun hq => by have := hlt _ (by simpa using hq); omega)).trans (es_ _ _)
 simp (disch := omega) only [go_sem, ↓reduceIte]
 obtain ⟨m', v1⟩ := v1
 have e7 : (aY_ aD_ [.int, .list [.str], .list [.int, .str], .int, .int, .int, .int] [.val (.int .i64 n0), .list 0 1 e1, .list 0 2 e2, .val (.int .i64 n3), .val (.int .i64 n4), .val (.int .i64 n5), .val (.int .i64 n6)] k) = ((aY_ aD_ [.int, .list [.str], .list [.int, .str]] [.val (.int .i64 n0), .list 0 1 e1, .list 0 2 e2] k).1 ++ [.val (.int .i64 n3), .val (.int .i64 n4), .val (.int .i64 n5), .val (.int .i64 n6)], (aY_ aD_ [.int, .list [.str], .list [.int, .str]] [.val (.int .i64 n0), .list 0 1 e1, .list 0 2 e2] k).2) := by simp only [aY_, a0_, cons_append, nil_append]
 have hfin : K (.val (.int .i64 (aY_ aD_ [.int, .list [.str], .list [.int, .str], .int, .int, .int, .int] [.val (.int .i64 n0), .list 0 1 e1, .list 0 2 e2, .val (.int .i64 n3), .val (.int .i64 n4), .val (.int .i64 n5), .val (.int .i64 n6)] k).2)) H1 := hK H1 (by omega) (fun x hx hxf => (y1 x (by omega) (by simpa using hxf)).trans (getElem?_append_left hx)) ⟨m' + 1, by
  show aw_ _ _ (aY_ aD_ [.int, .list [.str], .list [.int, .str], .int, .int, .int, .int] [.val (.int .i64 n0), .list 0 1 e1, .list 0 2 e2, .val (.int .i64 n3), .val (.int .i64 n4), .val (.int .i64 n5), .val (.int .i64 n6)] k).1 _
  rw [e7]
  exact np_ (aw_.up (Nat.le_succ m') v1) (aw_.mk_val _ (aw_.mk_val _ (aw_.mk_val _ (aw_.mk_val _ (aw_.mk_nil (Own _ (m' + 1)))))))⟩
 rw [e7] at hfin
 exact hfin
theorem hC_ (ds : List AV) (k : Int) (hsh : aB_ [.int, .list [.str], .list [.int, .str], .int, .int, .int, .int] ds) (hp : ds.all AV.flat = true) (hk : 0 ≤ k) (hb : k + bn_ [.int, .list [.str], .list [.int, .str], .int, .int, .int, .int] ds ≤ 4611686018427387904) (h : List Row) : aa_ prog 14 [.agg ds, .val (.int .i64 k)] h (.val (.int .i64 (cA_ aD_ [.int, .list [.str], .list [.int, .str], .int, .int, .int, .int] ds k))) := by
 unfold aB_ at hsh
 obtain ⟨_, d0, hd0, hc0, hsh⟩ := hsh
 unfold aL_ at hc0
 obtain ⟨n0, rfl⟩ := hc0
 unfold aB_ at hsh
 obtain ⟨_, d1, hd1, hc1, hsh⟩ := hsh
 unfold aL_ at hc1
 obtain ⟨e1, rfl, hc1⟩ := hc1
 unfold aB_ at hsh
 obtain ⟨_, d2, hd2, hc2, hsh⟩ := hsh
 unfold aL_ at hc2
 obtain ⟨e2, rfl, hc2⟩ := hc2
 unfold aB_ at hsh
 obtain ⟨_, d3, hd3, hc3, hsh⟩ := hsh
 unfold aL_ at hc3
 obtain ⟨n3, rfl⟩ := hc3
 unfold aB_ at hsh
 obtain ⟨_, d4, hd4, hc4, hsh⟩ := hsh
 unfold aL_ at hc4
 obtain ⟨n4, rfl⟩ := hc4
 unfold aB_ at hsh
 obtain ⟨_, d5, hd5, hc5, hsh⟩ := hsh
 unfold aL_ at hc5
 obtain ⟨n5, rfl⟩ := hc5
 unfold aB_ at hsh
 obtain ⟨_, d6, hd6, hc6, hsh⟩ := hsh
 unfold aL_ at hc6
 obtain ⟨n6, rfl⟩ := hc6
 unfold aB_ at hsh
 subst hsh
 subst hd6
 subst hd5
 subst hd4
 subst hd3
 subst hd2
 subst hd1
 subst hd0
 refine ah_ mixed Tryz.func14 wT_ rfl (by simp only [all_cons, all_nil, AV.plain, hp]; rfl) ?_ h
 simp only [bn_, aK_, Nat.add_zero] at hb
 simp (disch := omega) only [we_, c14, go_sem, reduceEqDiff, Nat.reduceAdd, reduceLeDiff, Int.reduceNeg, ↓reduceIte]
 refine aa_.call (n7_ [.val (.int .i64 n0), .list 0 1 e1, .list 0 2 e2] k (by simp only [aB_, aL_]; exact ⟨_, _, rfl, ⟨_, rfl⟩, ⟨_, _, rfl, ⟨_, rfl, hc1⟩, ⟨_, _, rfl, ⟨_, rfl, hc2⟩, rfl⟩⟩⟩) rfl hk (by simp only [bn_, aK_, Nat.add_zero]; omega) _) ?_
 have hE : cA_ aD_ [.int, .list [.str], .list [.int, .str], .int, .int, .int, .int] [.val (.int .i64 n0), .list 0 1 e1, .list 0 2 e2, .val (.int .i64 n3), .val (.int .i64 n4), .val (.int .i64 n5), .val (.int .i64 n6)] k = cA_ aD_ [.int, .list [.str], .list [.int, .str]] [.val (.int .i64 n0), .list 0 1 e1, .list 0 2 e2] k := by simp only [cA_]
 have hZ : cA_ aD_ [.int, .list [.str], .list [.int, .str]] [.val (.int .i64 n0), .list 0 1 e1, .list 0 2 e2] k = -1 ∨ 0 ≤ cA_ aD_ [.int, .list [.str], .list [.int, .str]] [.val (.int .i64 n0), .list 0 1 e1, .list 0 2 e2] k := by
  simp only [cA_]
  by_cases z1 : bx_ aD_ (.list [.str]) (.list 0 1 e1) k < 0
  ·left; rw [if_pos z1]
  ·by_cases z2 : bx_ aD_ (.list [.int, .str]) (.list 0 2 e2) (bx_ aD_ (.list [.str]) (.list 0 1 e1) k) < 0
   ·left; rw [if_neg z1, if_pos z2]
   ·right; rw [if_neg z1, if_neg z2]; omega
 by_cases q1 : cA_ aD_ [.int, .list [.str], .list [.int, .str]] [.val (.int .i64 n0), .list 0 1 e1, .list 0 2 e2] k < 0
 ·simp (disch := omega) only [q1, go_sem, Int.reduceNeg, ↓reduceIte]
  exact au_ (by rw [hE]; omega)
 simp (disch := omega) only [q1, go_sem, reduceEqDiff, Int.reduceNeg, ↓reduceIte]
 exact au_ (by rw [hE])
theorem p5_ (x : ab_) : aB_ [.str, .list [.str], .bool, .str, .bool, .str] (ab_.cells x) := by
 simp only [ab_.cells, aB_, aL_]
 exact ⟨_, _, rfl, ⟨_, rfl⟩, ⟨_, _, rfl, ⟨_, rfl, jv_ _⟩, ⟨_, _, rfl, ⟨_, rfl⟩, ⟨_, _, rfl, ⟨_, rfl⟩, ⟨_, _, rfl, ⟨_, rfl⟩, ⟨_, _, rfl, ⟨_, rfl⟩, rfl⟩⟩⟩⟩⟩⟩
theorem mo_ (x : ab_) (hb : ab_.sz x ≤ 1048576) : bA_ prog 21 [.agg (ab_.cells x)] (.agg (ab_.cells x)) (fun a => ∃ l_Subs, a = .agg [.val (.string x.Name), .own l_Subs (x.Subs).length, .val (.bool x.Had), .val (.string x.Was), .val (.bool x.Has), .val (.string x.Is)]) := by
 have hsz : ab_.sz x = ByteArray.size x.Name + (ar_ ByteArray.size) x.Subs + ByteArray.size x.Was + ByteArray.size x.Is := rfl
 refine eY_ mixed Tryz.func21 s1_ rfl (fun h0 => ?_)
 simp (disch := omega) only [q7_, c21, ab_.cells, go_sem, reduceEqDiff, Nat.reduceAdd, reduceLeDiff, ↓reduceIte]
 refine hl_ x.Subs (by omega) _ _ (fun av1 hn1 hf1 hq1 => ?_)
 obtain ⟨l_Subs, rfl⟩ := hq1
 simp (disch := omega) only [go_sem, reduceEqDiff, Nat.reduceAdd, reduceLeDiff, ↓reduceIte, cC_]
 exact ⟨_, rfl, hh_ (at_.val _ (at_.cons ((hf1.b.keep fun l q1 q2 => oV_ (t := []) (by simp) q1 q2).widen (by first | omega | (simp; done) | (simp; omega)) (Nat.le_refl _)) (at_.val _ (at_.val _ (at_.val _ (at_.val _ (at_.nil _ _ _))))) ⟨(by first | omega | (simp; done) | (simp; omega)), (by first | omega | (simp; done) | (simp; omega))⟩)), l_Subs, rfl⟩
theorem pk_ (xs : List ab_) : ∀ e ∈ xs.map ab_.cells, aB_ [.str, .list [.str], .bool, .str, .bool, .str] e := by
 intro e he
 obtain ⟨x, _, q⟩ := mem_map.1 he; subst q
 exact p5_ x
theorem nW_ (xs : List ab_) : aX_ (aU_ [.str, .list [.str], .bool, .str, .bool, .str]) (xs.map ab_.cells) ≤ 6 * (ar_ ab_.sz) xs := by
 refine gY_ (fun x => ?_) xs
 have c0 := iK_ (x.Subs)
 have hsz0 : ∀ y : ab_, ab_.sz y = ByteArray.size y.Name + (ar_ ByteArray.size) y.Subs + ByteArray.size y.Was + ByteArray.size y.Is := fun _ => rfl
 simp only [hsz0] at *
 simp only [ab_.cells, aU_, aK_]
 omega
theorem o8_ (xs : List ab_) (hb : (ar_ ab_.sz) xs ≤ 1048576) : aX_ (aU_ [.str, .list [.str], .bool, .str, .bool, .str]) (xs.map ab_.cells) ≤ 6 * 1048576 := by
 have := nW_ xs
 omega
theorem k9_ (xs : List ab_) (hb : (ar_ ab_.sz) xs ≤ 1048576) : bA_ prog 8 [.list 0 6 (xs.map ab_.cells)] (.list 0 6 (xs.map ab_.cells)) (fun a => ∃ l, a = .own l xs.length) := by
 have hx := Nat.le_trans (bT_ (f := ab_.sz) (xs := xs)) hb
 refine eY_ mixed Tryz.func8 vk_ rfl (fun h0 => ?_)
 simp (disch := omega) only [lf8, c8, go_sem, reduceCtorEq, ↓reduceIte]
 refine ⟨by omega, by omega, ?_⟩
 refine aJ_ (fun n t h => ∃ (k : Nat) (done : List (List AV)) (rest : List Row), t 0 = .list 0 6 (xs.map ab_.cells) ∧ t 3 = .own h0.length xs.length ∧ t 4 = .val (.int .i64 k) ∧ h = h0 ++ ⟨53, 6, done ++ List.replicate (xs.length - k) ([.val (.string (txt [])), .val (.slice none 0 0), .val (.bool false), .val (.string (txt [])), .val (.bool false), .val (.string (txt []))] : List AV)⟩ :: rest ∧ n = xs.length - k ∧ k ≤ xs.length ∧ done.length = k ∧ bp_ (h0.length + 1) h.length h done ((xs.take k).map ab_.cells)) xs.length ?_ ?_
 ·exact ⟨0, [], [], rfl, rfl, rfl, by simp, rfl, Nat.zero_le _, rfl, .nil _ _ _⟩
 ·rintro J hJ n t h ⟨k, done, rest, t0, t3, t4, rfl, rfl, hk, hd, hF⟩
  have fl : (done ++ List.replicate (xs.length - k) ([.val (.string (txt [])), .val (.slice none 0 0), .val (.bool false), .val (.string (txt [])), .val (.bool false), .val (.string (txt []))] : List AV)).length = xs.length := by simp; omega
  by_cases hlt : k < xs.length
  ·have e1 : xs.length - k = (xs.length - (k + 1)) + 1 := by omega
   have fg : (done ++ List.replicate (xs.length - k) ([.val (.string (txt [])), .val (.slice none 0 0), .val (.bool false), .val (.string (txt [])), .val (.bool false), .val (.string (txt []))] : List AV))[k]? = some [.val (.string (txt [])), .val (.slice none 0 0), .val (.bool false), .val (.string (txt [])), .val (.bool false), .val (.string (txt []))] := by rw [getElem?_append_right (by omega), hd, Nat.sub_self, e1]; rfl
   have fs : ∀ c : List AV, (done ++ List.replicate (xs.length - k) ([.val (.string (txt [])), .val (.slice none 0 0), .val (.bool false), .val (.string (txt [])), .val (.bool false), .val (.string (txt []))] : List AV)).set k c = (done ++ [c]) ++ List.replicate (xs.length - (k + 1)) ([.val (.string (txt [])), .val (.slice none 0 0), .val (.bool false), .val (.string (txt [])), .val (.bool false), .val (.string (txt []))] : List AV) := by
    intro c; rw [set_append_right _ _ (by omega), hd, Nat.sub_self, e1, replicate_succ, set_cons_zero, append_assoc]; rfl
   simp (disch := omega) only [t0, t3, t4, hlt, ab_.cells, aC_, go_sem, reduceEqDiff, Nat.reduceAdd, reduceCtorEq, ↓reduceIte]
   refine mo_ xs[k] (by have := dg_ (f := ab_.sz) (getElem_mem hlt); omega) _ _ (fun av hn hf hq => ?_)
   obtain ⟨l_Subs, rfl⟩ := hq
   simp (disch := omega) only [t4, hlt, fl, fg, fs, go_sem, reduceEqDiff, Nat.reduceAdd, ↓reduceIte, az_]
   refine ⟨xs.length - (k + 1), by omega, hJ _ _ _ ⟨k + 1, done ++ [[.val (.string xs[k].Name), .own l_Subs (xs[k].Subs).length, .val (.bool xs[k].Had), .val (.string xs[k].Was), .val (.bool xs[k].Has), .val (.string xs[k].Is)]], rest ++ hn, by simp [upd, t0], by simp [upd, t3], by simp [upd], by simp, rfl, by omega, by simp [hd], ?_⟩⟩
   rw [take_succ_eq_append_getElem hlt, map_append]
   have hz := jz_ (r' := ⟨53, 6, (done ++ [[.val (.string xs[k].Name), .own l_Subs (xs[k].Subs).length, .val (.bool xs[k].Had), .val (.string xs[k].Was), .val (.bool xs[k].Has), .val (.string xs[k].Is)]]) ++ List.replicate (xs.length - (k + 1)) ([.val (.string (txt [])), .val (.slice none 0 0), .val (.bool false), .val (.string (txt [])), .val (.bool false), .val (.string (txt []))] : List AV)⟩) hF hf
   first | exact hz | simpa using hz
  ·simp (disch := omega) only [t0, t3, t4, hlt, aC_, go_sem, reduceEqDiff, reduceCtorEq, ↓reduceIte]
   have e1 : xs.length - k = 0 := by omega
   rw [e1, replicate_zero, append_nil, take_of_length_le (by omega)] at hF
   rw [e1, replicate_zero, append_nil]
   exact ⟨_, rfl, kb_ hF (by omega), _, rfl⟩
theorem mi_ : gl_ prog 13 aD_ [.str, .list [.str], .bool, .str, .bool, .str] := by
 refine gl_.of ?_ ?_
 ·intro H k K hK
  refine bg_ mixed Tryz.func13 sS_ (b4_ rfl ?_)
  simp (disch := omega) only [rS_, c13, go_sem]
  refine aJ_ (fun n t h => t 0 = .val (.slice none 0 0) ∧ t 1 = .val (.int .i64 k) ∧ t 5 = .val (.int .i64 0) ∧ h = H) 0 ⟨rfl, rfl, rfl, rfl⟩ ?_
  rintro J hJ n t h ⟨t0, t1, t5, rfl⟩
  simp (disch := omega) only [t0, t1, t5, go_sem, reduceEqDiff, reduceCtorEq, Int.reduceLT, ↓reduceIte]
  exact hK
 ·intro l cnt lo hi E rs0 f H0 k K hT hl nd hrl hlo hhi hsh hk hb hK
  refine bg_ mixed Tryz.func13 sS_ (b4_ rfl ?_)
  obtain ⟨seg, hseg⟩ : ∃ seg, seg = (rs0.take hi).drop lo := ⟨_, rfl⟩
  rw [← hseg] at hsh hb hK
  have hsl : hi - lo = seg.length := by rw [hseg, length_drop, length_take]; omega
  have hsn : seg.length ≤ aX_ (aU_ [.str, .list [.str], .bool, .str, .bool, .str]) seg := gx_ (c := aU_ [.str, .list [.str], .bool, .str, .bool, .str]) (fun e he => by have q := hsh e he; unfold aB_ at q; obtain ⟨c, r, rfl, _, _⟩ := q; simp only [aU_, aK_]; omega)
  simp (disch := omega) only [rS_, c13, go_sem]
  refine aJ_ (fun n t h => ∃ (i : Nat) (rs : List (List AV)), t 0 = .sub l cnt lo hi ∧ t 1 = .val (.int .i64 (aI_ (a9_ aD_ [.str, .list [.str], .bool, .str, .bool, .str]) (seg.take i) k).2) ∧ t 5 = .val (.int .i64 i) ∧ MT H0 l E 6 cnt f rs h ∧ n = seg.length - i ∧ i ≤ seg.length ∧ rs.length = cnt ∧ (rs.take hi).drop lo = (aI_ (a9_ aD_ [.str, .list [.str], .bool, .str, .bool, .str]) (seg.take i) k).1 ++ seg.drop i) seg.length ⟨0, rs0, rfl, rfl, rfl, hT, rfl, Nat.zero_le _, hrl, hseg.symm⟩ ?_
  rintro J hJ n t h ⟨i, rs, t0, t1, t5, hM, rfl, hi1, hrl1, hS⟩
  by_cases hlt : i < seg.length
  ·have hA : (aI_ (a9_ aD_ [.str, .list [.str], .bool, .str, .bool, .str]) (seg.take i) k).1.length = i := by rw [gs_, length_take]; omega
   have hst := j3_ (g := (a9_ aD_ [.str, .list [.str], .bool, .str, .bool, .str])) (k := k) hlt
   have hcn := h8_ (c := aU_ [.str, .list [.str], .bool, .str, .bool, .str]) hlt
   have hzz : (aI_ (a9_ aD_ [.str, .list [.str], .bool, .str, .bool, .str]) (seg.take i) k).2 = k + aX_ (aU_ [.str, .list [.str], .bool, .str, .bool, .str]) (seg.take i) := da_ (fun x _ k => dm_ [.str, .list [.str], .bool, .str, .bool, .str] x k) k
   have hj4 : (lo : Int) + (i : Int) < (hi : Int) := by omega
   have hj2 := (ks_ hS hA hlt).2.1
   have hsd := hsh _ (getElem_mem hlt)
   have hss : ∀ d, ((rs.set (lo + i) d).take hi).drop lo = ((aI_ (a9_ aD_ [.str, .list [.str], .bool, .str, .bool, .str]) (seg.take i) k).1 ++ [d]) ++ seg.drop (i + 1) := fun d => jE_ hS hA hlt
   clear hS hA
   generalize seg[i] = d at hst hcn hj2 hsd
   obtain ⟨z, hz⟩ : ∃ z, z = (aI_ (a9_ aD_ [.str, .list [.str], .bool, .str, .bool, .str]) (seg.take i) k).2 := ⟨_, rfl⟩
   rw [← hz] at hst hzz t1
   have hz0 : 0 ≤ z := by omega
   unfold aB_ at hsd
   obtain ⟨_, d0, hd0, hc0, hsd⟩ := hsd
   unfold aL_ at hc0
   obtain ⟨s0, rfl⟩ := hc0
   unfold aB_ at hsd
   obtain ⟨_, d1, hd1, hc1, hsd⟩ := hsd
   unfold aL_ at hc1
   obtain ⟨e1, rfl, hc1⟩ := hc1
   unfold aB_ at hsd
   obtain ⟨_, d2, hd2, hc2, hsd⟩ := hsd
   unfold aL_ at hc2
   obtain ⟨b2, rfl⟩ := hc2
   unfold aB_ at hsd
   obtain ⟨_, d3, hd3, hc3, hsd⟩ := hsd
   unfold aL_ at hc3
   obtain ⟨s3, rfl⟩ := hc3
   unfold aB_ at hsd
   obtain ⟨_, d4, hd4, hc4, hsd⟩ := hsd
   unfold aL_ at hc4
   obtain ⟨b4, rfl⟩ := hc4
   unfold aB_ at hsd
   obtain ⟨_, d5, hd5, hc5, hsd⟩ := hsd
   unfold aL_ at hc5
   obtain ⟨s5, rfl⟩ := hc5
   unfold aB_ at hsd
   subst hsd
   subst hd5
   subst hd4
   subst hd3
   subst hd2
   subst hd1
   subst hd0
   simp only [aU_, aK_, Nat.add_zero] at hcn
   obtain ⟨m, es, e, f2, r1, r2, r3, ho_0, nd2, hl2, hfin⟩ := hM.elem hl nd hj2
   obtain ⟨q0, rfl, ho_1⟩ := ho_0.inv_val
   obtain ⟨c1, q1, g1, w1, rfl, rfl, hw1, ho_2⟩ := ho_1.inv_cons
   obtain ⟨q2, rfl, ho_3⟩ := ho_2.inv_val
   obtain ⟨q3, rfl, ho_4⟩ := ho_3.inv_val
   obtain ⟨q4, rfl, ho_5⟩ := ho_4.inv_val
   obtain ⟨q5, rfl, ho_6⟩ := ho_5.inv_val
   obtain ⟨rfl, rfl⟩ := ho_6.inv_nil
   simp only [append_nil] at nd2 hl2
   have nd_1 : g1.Nodup := by first | exact nd2 | exact nd2.1 | exact nd2.2.1 | (simp_all; done)
   have hl_1 : l ∉ g1 := fun q => hl2 (by simp [q])
   have u1 : ∀ r, (h.set l r)[l]? = some r := fun r => getElem?_set_self (List.getElem?_eq_some_iff.1 r1).1
   have u2 : ∀ x, (es.set (lo + i) x)[lo + i]? = some x := fun x => getElem?_set_self (List.getElem?_eq_some_iff.1 r3).1
   simp (disch := omega) only [t0, t1, t5, hlt, hsl, hlo, r1, r2, go_sem, reduceEqDiff, reduceCtorEq, ↓reduceIte]
   refine aa_.call (dh_ (z) (by omega) (by omega) _) ?_
   simp (disch := omega) only [t0, t1, t5, hj4, r1, r2, r3, u1, u2, ls_, go_sem, reduceEqDiff, Nat.reduceAdd, reduceLeDiff, reduceCtorEq, ↓reduceIte]
   refine hR_ _ c1 e1 g1 _ (z + 1) _ (hw1.keep fun x hx => ?_) nd_1 hc1 (by omega) (by omega) (fun H1 m1 x1 y1 v1 => ?_)
   ·first | rfl | exact getElem?_set_ne (by rintro rfl; exact hl_1 hx)
   have hq1 : (aI_ (a9_ aD_ [.str]) e1 (z + 1)).2 = z + 1 + (aX_ (aU_ [.str]) e1 : Nat) := da_ (fun x _ k => dm_ _ x k) _
   have p1 := (y1 l hl_1).trans (by first | exact u1 _ | exact r1)
   have un1 : ∀ r, (H1.set l r)[l]? = some r := fun r => getElem?_set_self (List.getElem?_eq_some_iff.1 p1).1
   simp (disch := omega) only [t0, t5, hj4, r2, u2, ls_, set_set, p1, go_sem, reduceEqDiff, Nat.reduceAdd, reduceLeDiff, reduceCtorEq, ↓reduceIte]
   refine aa_.call (dh_ ((aI_ (a9_ aD_ [.str]) e1 (z + 1)).2 + 1) (by omega) (by omega) _) ?_
   simp (disch := omega) only [t0, t5, hj4, r2, u2, ls_, set_set, un1, go_sem, reduceEqDiff, Nat.reduceAdd, reduceLeDiff, reduceCtorEq, ↓reduceIte]
   refine aa_.call (dh_ ((aI_ (a9_ aD_ [.str]) e1 (z + 1)).2 + 1 + 1 + 1) (by omega) (by omega) _) ?_
   simp (disch := omega) only [t5, hj4, r2, u2, ls_, set_set, un1, go_sem, reduceEqDiff, Nat.reduceAdd, ↓reduceIte]
   refine ⟨seg.length - (i + 1), by omega, hJ _ _ _ ⟨i + 1, rs.set (lo + i) _, by simp [upd, t0], by rw [hst]; simp [upd, a9_, a0_], by simp [upd], hfin _ _ _ ?_ (by first | exact un1 _ | exact p1) ?_ ?_, rfl, by omega, by simpa using hrl1, by rw [hst]; exact hss _⟩⟩
   ·simp only [ls_, x1]
   ·intro x hx
    simp only [mem_cons, not_or, append_nil] at hx
    try rw [getElem?_set_ne (Ne.symm hx.1)]
    rw [y1 x (by intro hq; first | (simp_all; done) | exact nd.2.2 _ hq _ hx rfl | exact nd.2.2 _ hx _ hq rfl | grind)]
    try rw [getElem?_set_ne (Ne.symm hx.1)]
   ·simp only [a9_, a0_]
    exact ⟨_, (aw_.mk_val _ (aw_.mk_list (v1.keep fun x hx => by first | rfl | ((try rw [getElem?_set_ne (by rintro rfl; exact hl_1 hx)]))) (aw_.mk_val _ (aw_.mk_val _ (aw_.mk_val _ (aw_.mk_val _ (aw_.mk_nil (Own _ (0 + 1)))))))))⟩
  ·obtain ⟨m, es, r1, r2, _⟩ := hM.out
   have e1 : seg.take i = seg := take_of_length_le (by omega)
   have e2 : seg.drop i = [] := drop_eq_nil_of_le (by omega)
   rw [e1] at t1 hS
   rw [e2, append_nil] at hS
   simp (disch := omega) only [t0, t1, t5, hlt, hsl, hlo, r1, r2, go_sem, reduceEqDiff, reduceCtorEq, ↓reduceIte]
   exact hK _ rs hM hS
end Go.Proofs.YthahmhkbcdpkjabGreatDoor
