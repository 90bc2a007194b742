/-
 Contracts of functions of this program, over abstract values. Conditions: as each theorem says.
-/
import Derived.Test.YtfkddbkjmkceaaaGreatDoorGnFnExactNoteEvent
import Derived.Test.YtfkddbkjmkceaaaGreatDoorAwC
import Derived.Test.YtfkddbkjmkceaaaGreatDoorPlNum
namespace Go.Proofs.YtfkddbkjmkceaaaGreatDoor
open List
open Go.AW
set_option linter.unusedVariables false
set_option linter.unusedSimpArgs false
set_option maxRecDepth 4000
def aY_ (k : Int) : ByteArray := if k ≤ 0 then txt [109, 48] else txt (109 :: cf_ k.toNat)
theorem qE_ (u : Nat) (h : u ≠ 0) : cf_ u = cf_ (u / 10) ++ [UInt8.ofNat (48 + u % 10)] := by
 unfold cf_
 rw [if_neg h, Lib.decDigits]
 by_cases q : u < 10
 ·rw [dif_pos q, if_pos (by omega)]
  have : u % 10 = u := by omega
  rw [this]; rfl
 ·rw [dif_neg q, if_neg (by omega)]
theorem pM_ (u : Nat) (h : u ≤ 4611686018427387904) : (cf_ u).length ≤ 19 := by
 unfold cf_
 split
 ·simp
 ·rw [Go.Lib.decDigits_length]; exact hQ_ 18 _ (by omega)
def c64 : LC :=
 .q [.o [.s 2 (.mov (.const (.string ⟨#[]⟩)))], .q [.o [.m 4 0, .bk 5 .leq false 4 0], .k 5 (.q [.o [.s 2 (.mov (.const (.string ⟨#[109, 48]⟩)))], .ret]) .skip], .o [.s 3 (.mov (.const (.string ⟨#[]⟩)))], .block 0 (.loop
 (.q [.q [.o [.m 6 0, .bk 7 .gtr false 6 0], .k 7 .skip (.exit 0)], .block 1 (.q [.o [.m 8 0, .bk 9 .rem false 8 10, .s 10 (.bin .add false (.const (.int .i64 48)) (.tmp 9)), .s 11 (.convInt .u8 (.tmp 10)), .s 12
 (.buildSlice 5 1 (.int .u8 0) 1 [(0, .tmp 11)]), .s 13 (.toStr (.tmp 12)), .m 14 3, .bb 15 .add false 13 14, .m 3 15], .o [.m 16 0, .bk 17 .quo false 16 10, .m 0 17]])])), .o [.m 18 3, .s 19 (.bin .add false (.const
 (.string ⟨#[109]⟩)) (.tmp 18)), .m 2 19], .ret]
def uu_ : LF := ⟨1, 20, c64, [.tmp 2]⟩
theorem C7_ : au_ Tryz.prog Tryz.f64 uu_ := ah_
theorem dE_ (k : Int) (hk : 0 ≤ k) (hb : k ≤ 4611686018427387904) (h : List Row) : aa_ Tryz.prog 64 [.val (.int .i64 k)] h (.val (.string (aY_ k))) := by
 refine ak_ mixed Tryz.func64 C7_ rfl rfl ?_ h
 by_cases h0 : k ≤ 0
 ·simp (disch := omega) only [uu_, c64, h0, go_sem, reduceCtorEq, ↓reduceIte]
  exact bB_ (by rw [aY_, if_pos h0])
 ·simp (disch := omega) only [uu_, c64, h0, go_sem, reduceCtorEq, ↓reduceIte]
  have hL := pM_ k.toNat (by omega)
  refine aQ_ (fun n t h => ∃ (u : Nat) (out : List UInt8), t 0 = .val (.int .i64 u) ∧ t 3 = .val (.string (txt out)) ∧ u = n ∧ u ≤ 4611686018427387904 ∧ cf_ k.toNat = cf_ u ++ out) k.toNat ⟨k.toNat, [], by simp [upd, ga_]; omega, rfl, rfl, by omega, by simp⟩ ?_
  rintro J hJ n t h ⟨u, out, t0, t3, rfl, hu, hS⟩
  by_cases hz : 0 < u
  ·have hm := qE_ u (by omega)
   have hlen := congrArg List.length hS
   simp only [la_] at hlen
   have hl1 : ([UInt8.ofNat (48 + u % 10)] : List UInt8).length + out.length ≤ 9223372036854775807 := by simp only [lc_, ln_]; omega
   have e1 : ((u : Int) % 10).toNat = u % 10 := by omega
   have e2 : (48 + (u : Int) % 10).toNat = 48 + u % 10 := by omega
   have e3 : ((u : Int) / 10) = ((u / 10 : Nat) : Int) := by omega
   simp (disch := omega) only [t0, t3, hz, e2, e3, jP_ _ _ _ hl1, go_sem, Nat.reduceEqDiff, reduceCtorEq, ↓reduceIte]
   exact ⟨u / 10, by omega, hJ _ _ _ ⟨u / 10, UInt8.ofNat (48 + u % 10) :: out, by simp [upd], by simp [upd], rfl, by omega, by rw [hS, hm, append_assoc]; rfl⟩⟩
  ·have hz' : u = 0 := by omega
   subst hz'
   have hlen := congrArg List.length hS
   simp only [la_] at hlen
   have hl2 : ([109] : List UInt8).length + out.length ≤ 9223372036854775807 := by simp only [lc_, ln_]; omega
   simp (disch := omega) only [t0, t3, jP_ _ _ _ hl2, go_sem, Nat.reduceEqDiff, Int.reduceLT, ↓reduceIte]
   exact bB_ (by rw [aY_, if_neg h0, hS]; rfl)
def c55 : LC :=
 .q [.o [.ki 4 0], .q [.o [.ki 5 0], .block 0 (.loop (.q [.q [.o [.m 6 5, .m 7 0, .ll 8 7, .bb 9 .lss false 6 8], .k 9 .skip (.exit 0)], .block 1 (.q [.o [.m 12 0, .m 13 5, .m 14 1, .c1 15 64 14, .ia 16 1 12 13, .st 1 16
 15], .o [.m 17 1, .bk 18 .add false 17 1, .m 1 18]]), .o [.m 10 5, .bk 11 .add false 10 1, .m 5 11]]))], .o [.m 19 1, .m 4 19], .ret]
def uK_ : LF := ⟨2, 20, c55, [.tmp 4]⟩
theorem ws_ : au_ Tryz.prog Tryz.f55 uK_ := ah_
def c66 : LC :=
 .q [.o [.ki 4 0], .q [.o [.ki 5 0], .block 0 (.loop (.q [.q [.o [.m 6 5, .m 7 0, .ll 8 7, .bb 9 .lss false 6 8], .k 9 .skip (.exit 0)], .block 1 (.q [.q [.dops [.m 12 0, .m 13 5, .ia 14 1 12 13, .ln 15 14, .m 16 1, .c1
 17 64 16, .bb 18 .neq false 15 17], .k 18 (.q [.o [.s 4 (.mov (.const (.int .i64 (-1))))], .ret]) .skip], .o [.m 19 1, .bk 20 .add false 19 1, .m 1 20]]), .o [.m 10 5, .bk 11 .add false 10 1, .m 5 11]]))], .o [.m 21 1,
 .m 4 21], .ret]
def zE_ : LF := ⟨2, 22, c66, [.tmp 4]⟩
theorem Dm_ : au_ Tryz.prog Tryz.f66 zE_ := ah_
def c53 : LC :=
 .q [.o [.ki 4 0], .q [.o [.ki 5 0], .block 0 (.loop (.q [.q [.o [.m 6 5, .m 7 0, .ll 8 7, .bb 9 .lss false 6 8], .k 9 .skip (.exit 0)], .block 1 (.q [.o [.m 12 0, .m 13 5, .m 14 1, .c1 15 64 14, .ia 16 3 12 13, .fa 17 0
 16, .st 1 17 15], .o [.m 18 1, .bk 19 .add false 18 1, .m 1 19], .o [.m 20 0, .m 21 5, .ia 22 3 20 21, .fa 23 1 22, .ln 24 23, .m 25 1, .c2 26 55 24 25, .m 1 26], .o [.m 27 0, .m 28 5, .m 29 1, .c1 30 64 29, .ia 31 3 27
 28, .fa 32 2 31, .st 1 32 30], .o [.m 33 1, .bk 34 .add false 33 1, .m 1 34]]), .o [.m 10 5, .bk 11 .add false 10 1, .m 5 11]]))], .o [.m 35 1, .m 4 35], .ret]
def uV_ : LF := ⟨2, 36, c53, [.tmp 4]⟩
theorem wC_ : au_ Tryz.prog Tryz.f53 uV_ := ah_
def c16 : LC :=
 .q [.o [.bx 2 41 0, .ki 4 0], .o [.fa 5 0 2, .ln 6 5, .m 7 1, .c2 8 53 6 7, .m 1 8], .o [.m 9 1, .m 4 9], .ret]
def zu_ : LF := ⟨2, 10, c16, [.tmp 4]⟩
theorem Dd_ : au_ Tryz.prog Tryz.f16 zu_ := ah_
def c18 : LC :=
 .q [.o [.bx 2 44 0, .ki 4 0], .o [.fa 5 2 2, .ln 6 5, .m 7 1, .c2 8 55 6 7, .m 1 8], .o [.m 9 1, .m 4 9], .ret]
def zo_ : LF := ⟨2, 10, c18, [.tmp 4]⟩
theorem Ds_ : au_ Tryz.prog Tryz.f18 zo_ := ah_
def c54 : LC :=
 .q [.o [.ki 4 0], .q [.o [.ki 5 0], .block 0 (.loop (.q [.q [.o [.m 6 5, .m 7 0, .ll 8 7, .bb 9 .lss false 6 8], .k 9 .skip (.exit 0)], .block 1 (.q [.o [.m 12 0, .m 13 5, .m 14 1, .ia 15 5 12 13, .fa 16 0 15, .st 1 16
 14], .o [.m 17 1, .bk 18 .add false 17 1, .m 1 18], .o [.m 19 0, .m 20 5, .m 21 1, .c1 22 64 21, .ia 23 5 19 20, .fa 24 1 23, .st 1 24 22], .o [.m 25 1, .bk 26 .add false 25 1, .m 1 26], .o [.m 27 0, .m 28 5, .ia 29 5 27
 28, .fa 30 2 29, .ln 31 30, .m 32 1, .c2 33 55 31 32, .m 1 33], .o [.m 34 0, .m 35 5, .m 36 1, .c1 37 64 36, .ia 38 5 34 35, .fa 39 3 38, .st 1 39 37], .o [.m 40 1, .bk 41 .add false 40 1, .m 1 41], .o [.m 42 0, .m 43 5,
 .m 44 1, .ia 45 5 42 43, .fa 46 4 45, .st 1 46 44], .o [.m 47 1, .bk 48 .add false 47 1, .m 1 48]]), .o [.m 10 5, .bk 11 .add false 10 1, .m 5 11]]))], .o [.m 49 1, .m 4 49], .ret]
def wb_ : LF := ⟨2, 50, c54, [.tmp 4]⟩
theorem xc_ : au_ Tryz.prog Tryz.f54 wb_ := ah_
def c56 : LC :=
 .q [.o [.ki 4 0], .q [.o [.ki 5 0], .block 0 (.loop (.q [.q [.o [.m 6 5, .m 7 0, .ll 8 7, .bb 9 .lss false 6 8], .k 9 .skip (.exit 0)], .block 1 (.q [.q [.o [.m 12 0, .m 13 5, .ia 14 5 12 13, .fa 15 0 14, .ln 16 15, .m
 17 1, .bb 18 .neq false 16 17], .k 18 (.q [.o [.s 4 (.mov (.const (.int .i64 (-1))))], .ret]) .skip], .o [.m 19 1, .bk 20 .add false 19 1, .m 1 20], .q [.dops [.m 21 0, .m 22 5, .ia 23 5 21 22, .fa 24 1 23, .ln 25 24, .m
 26 1, .c1 27 64 26, .bb 28 .neq false 25 27], .k 28 (.q [.o [.s 4 (.mov (.const (.int .i64 (-1))))], .ret]) .skip], .o [.m 29 1, .bk 30 .add false 29 1, .m 1 30], .o [.m 31 0, .m 32 5, .ia 33 5 31 32, .fa 34 2 33, .ln 35
 34, .m 36 1, .c2 37 66 35 36, .m 1 37], .q [.o [.m 38 1, .bk 39 .lss false 38 0], .k 39 (.q [.o [.s 4 (.mov (.const (.int .i64 (-1))))], .ret]) .skip], .q [.dops [.m 40 0, .m 41 5, .ia 42 5 40 41, .fa 43 3 42, .ln 44 43,
 .m 45 1, .c1 46 64 45, .bb 47 .neq false 44 46], .k 47 (.q [.o [.s 4 (.mov (.const (.int .i64 (-1))))], .ret]) .skip], .o [.m 48 1, .bk 49 .add false 48 1, .m 1 49], .q [.o [.m 50 0, .m 51 5, .ia 52 5 50 51, .fa 53 4 52,
 .ln 54 53, .m 55 1, .bb 56 .neq false 54 55], .k 56 (.q [.o [.s 4 (.mov (.const (.int .i64 (-1))))], .ret]) .skip], .o [.m 57 1, .bk 58 .add false 57 1, .m 1 58]]), .o [.m 10 5, .bk 11 .add false 10 1, .m 5 11]]))], .o
 [.m 59 1, .m 4 59], .ret]
def AE_ : LF := ⟨2, 60, c56, [.tmp 4]⟩
theorem Dt_ : au_ Tryz.prog Tryz.f56 AE_ := ah_
def c17 : LC :=
 .q [.o [.bx 2 36 0, .ki 4 0], .o [.fa 5 2 2, .ln 6 5, .m 7 1, .c2 8 54 6 7, .m 1 8], .o [.m 9 1, .m 4 9], .ret]
def Cu_ : LF := ⟨2, 10, c17, [.tmp 4]⟩
theorem Dh_ : au_ Tryz.prog Tryz.f17 Cu_ := ah_
def c19 : LC :=
 .q [.o [.bx 2 36 0, .ki 4 0], .o [.fa 5 2 2, .ln 6 5, .m 7 1, .c2 8 56 6 7, .m 1 8], .q [.o [.m 9 1, .bk 10 .lss false 9 0], .k 10 (.q [.o [.s 4 (.mov (.const (.int .i64 (-1))))], .ret]) .skip], .o [.m 11 1, .m 4 11],
 .ret]
def zk_ : LF := ⟨2, 12, c19, [.tmp 4]⟩
theorem CU_ : au_ Tryz.prog Tryz.f19 zk_ := ah_
theorem lR_ (xs : List ByteArray) : ∀ e ∈ xs.map aj_, aU_ [.str] e := by
 intro e he
 obtain ⟨x, _, q⟩ := mem_map.1 he; subst q
 simp only [aU_, bc_, aj_]
 exact ⟨_, _, rfl, ⟨_, rfl⟩, rfl⟩
theorem il_ (xs : List ByteArray) : bo_ (bf_ [.str]) (xs.map aj_) ≤ 1 * (aq_ ByteArray.size) xs := by
 refine iH_ (fun x => ?_) xs
 simp only [bf_, a1_]
 omega
theorem iQ_ (xs : List ByteArray) (hb : (aq_ ByteArray.size) xs ≤ 1048576) : aK_ Tryz.prog 42 [.list 0 1 (xs.map aj_)] (.list 0 1 (xs.map aj_)) (fun a => ∃ l, a = .own l xs.length) := by
 have hx := Nat.le_trans (cz_ (f := ByteArray.size) (xs := xs)) hb
 refine dq_ mixed Tryz.func42 wV_ rfl (fun h0 => ?_)
 simp (disch := omega) only [v2_, c42, go_sem, reduceCtorEq, ↓reduceIte]
 refine ⟨by omega, by omega, ?_⟩
 refine aQ_ (fun n t h => ∃ k : Nat, t 0 = .list 0 1 (xs.map aj_) ∧ t 3 = .own h0.length xs.length ∧ t 4 = .val (.int .i64 k) ∧ h = h0 ++ [⟨9, 1, b3_ (xs.map aj_) [.val (.string (txt []))] k⟩] ∧ n = xs.length - k ∧ k ≤ xs.length) xs.length ?_ ?_
 ·exact ⟨0, rfl, rfl, rfl, by rw [hb_]; simp, rfl, Nat.zero_le _⟩
 ·rintro J hJ n t h ⟨k, t0, t3, t4, rfl, rfl, hk⟩
  have fl : (b3_ (xs.map aj_) [.val (.string (txt []))] k).length = xs.length := by rw [f4_ _ _ (by simpa using hk)]; simp
  by_cases hlt : k < xs.length
  ·have fg : (b3_ (xs.map aj_) [.val (.string (txt []))] k)[k]? = some [.val (.string (txt []))] := hT_ _ _ (by simpa using hlt)
   have fs := ha_ (xs.map aj_) [.val (.string (txt []))] (aj_ xs[k]) (k := k) (by rw [getElem?_map, getElem?_eq_getElem hlt]; rfl)
   simp (disch := omega) only [t0, t3, t4, hlt, fl, fg, ag_, go_sem, Nat.reduceEqDiff, reduceCtorEq, ↓reduceIte, as_]
   try simp (disch := omega) only [fs, go_sem]
   exact ⟨xs.length - (k + 1), by omega, hJ _ _ _ ⟨k + 1, by simp [upd, t0], by simp [upd, t3], by simp [upd], by simp [], rfl, by omega⟩⟩
  ·simp (disch := omega) only [t0, t3, t4, hlt, fl, ag_, go_sem, Nat.reduceEqDiff, reduceCtorEq, ↓reduceIte]
   have ff : b3_ (xs.map aj_) [.val (.string (txt []))] k = xs.map aj_ := hP_ _ _ (by simp; omega)
   rw [ff]
   refine ⟨_, rfl, (aB_.mkown (lo := h0.length + 1) (hi := h0.length + 1) (bv_.ofVals _ _ _ _ ?_) (by rw [cn_]; rfl) (by simp) (Nat.le_refl _) (Nat.lt_succ_self _) (Nat.le_refl _)).fresh, _, rfl⟩
   intro e he c hc
   obtain ⟨x, _, q⟩ := mem_map.1 he; subst q
   simp only [aj_, mem_singleton] at hc
   exact ⟨_, hc⟩
theorem g7_ : iW_ Tryz.prog 55 aY_ [.str] := by
 refine iW_.of ?_ ?_
 ·intro H k K hK
  refine bg_ mixed Tryz.func55 ws_ (cg_ rfl ?_)
  simp (disch := omega) only [uK_, c55, go_sem]
  refine aQ_ (fun n t h => t 0 = .val (.slice none 0 0) ∧ t 1 = .val (.int .i64 k) ∧ t 5 = .val (.int .i64 0) ∧ h = H) 0 ⟨rfl, rfl, rfl, rfl⟩ ?_
  rintro J hJ n t h ⟨t0, t1, t5, rfl⟩
  simp (disch := omega) only [t0, t1, t5, go_sem, Nat.reduceEqDiff, reduceCtorEq, Int.reduceLT, ↓reduceIte]
  exact hK
 ·intro l cnt lo hi E rs0 f H0 k K hT hl nd hrl hlo hhi hsh hk hb hK
  refine bg_ mixed Tryz.func55 ws_ (cg_ rfl ?_)
  obtain ⟨seg, hseg⟩ : ∃ seg, seg = (rs0.take hi).drop lo := ⟨_, rfl⟩
  rw [← hseg] at hsh hb hK
  have hsl : hi - lo = seg.length := by rw [hseg, length_drop, length_take]; omega
  have hsn : seg.length ≤ bo_ (bf_ [.str]) seg := hY_ (c := bf_ [.str]) (fun e he => by have q := hsh e he; unfold aU_ at q; obtain ⟨c, r, rfl, _, _⟩ := q; simp only [bf_, a1_]; omega)
  simp (disch := omega) only [uK_, c55, go_sem]
  refine aQ_ (fun n t h => ∃ (i : Nat) (rs : List (List AV)), t 0 = .sub l cnt lo hi ∧ t 1 = .val (.int .i64 (a3_ (bH_ aY_ [.str]) (seg.take i) k).2) ∧ t 5 = .val (.int .i64 i) ∧ MT H0 l E 1 cnt f rs h ∧ n = seg.length - i ∧ i ≤ seg.length ∧ rs.length = cnt ∧ (rs.take hi).drop lo = (a3_ (bH_ aY_ [.str]) (seg.take i) k).1 ++ seg.drop i) seg.length ⟨0, rs0, rfl, rfl, rfl, hT, rfl, Nat.zero_le _, hrl, hseg.symm⟩ ?_
  rintro J hJ n t h ⟨i, rs, t0, t1, t5, hM, rfl, hi1, hrl1, hS⟩
  by_cases hlt : i < seg.length
  ·have hA : (a3_ (bH_ aY_ [.str]) (seg.take i) k).1.length = i := by rw [hR_, length_take]; omega
   have hst := l8_ (g := (bH_ aY_ [.str])) (k := k) hlt
   have hcn := jE_ (c := bf_ [.str]) hlt
   have hzz : (a3_ (bH_ aY_ [.str]) (seg.take i) k).2 = k + bo_ (bf_ [.str]) (seg.take i) := dt_ (fun x _ k => dM_ [.str] x k) k
   have hj4 : (lo : Int) + (i : Int) < (hi : Int) := by omega
   have hj2 := (my_ hS hA hlt).2.1
   have hsd := hsh _ (getElem_mem hlt)
   have hss : ∀ d, ((rs.set (lo + i) d).take hi).drop lo = ((a3_ (bH_ aY_ [.str]) (seg.take i) k).1 ++ [d]) ++ seg.drop (i + 1) := fun d => mc_ hS hA hlt
   clear hS hA
   generalize seg[i] = d at hst hcn hj2 hsd
   obtain ⟨z, hz⟩ : ∃ z, z = (a3_ (bH_ aY_ [.str]) (seg.take i) k).2 := ⟨_, rfl⟩
   rw [← hz] at hst hzz t1
   have hz0 : 0 ≤ z := by omega
   unfold aU_ at hsd
   obtain ⟨_, d0, hd0, hc0, hsd⟩ := hsd
   unfold bc_ at hc0
   obtain ⟨s0, rfl⟩ := hc0
   unfold aU_ at hsd
   subst hsd
   subst hd0
   simp only [bf_, a1_, Nat.add_zero] at hcn
   obtain ⟨m, es, e, f2, r1, r2, r3, ho_0, nd2, hl2, hfin⟩ := hM.elem hl nd hj2
   obtain ⟨q0, rfl, ho_1⟩ := ho_0.inv_val
   obtain ⟨rfl, rfl⟩ := ho_1.inv_nil
   have u1 : ∀ r, (h.set l r)[l]? = some r := fun r => getElem?_set_self (List.getElem?_eq_some_iff.1 r1).1
   have u2 : ∀ x, (es.set (lo + i) x)[lo + i]? = some x := fun x => getElem?_set_self (List.getElem?_eq_some_iff.1 r3).1
   simp (disch := omega) only [t0, t1, t5, hlt, hsl, hlo, r1, r2, go_sem, Nat.reduceEqDiff, reduceCtorEq, ↓reduceIte]
   refine aa_.call (dE_ (z) (by omega) (by omega) _) ?_
   simp (disch := omega) only [t1, t5, hj4, r1, r2, r3, go_sem, Nat.reduceEqDiff, ↓reduceIte]
   refine ⟨seg.length - (i + 1), by omega, hJ _ _ _ ⟨i + 1, rs.set (lo + i) _, by simp [upd, t0], by rw [hst]; simp [upd, bH_, bj_], by simp [upd], hfin _ _ _ ?_ (by first | exact u1 _ | exact u1 _) ?_ ?_, rfl, by omega, by simpa using hrl1, by rw [hst]; exact hss _⟩⟩
   ·simp only [ls_]
   ·intro x hx
    simp only [mem_cons, not_or] at hx
    try rw [getElem?_set_ne (Ne.symm hx.1)]
   ·simp only [bH_, bj_]
    exact ⟨_, (aI_.mk_val _ (aI_.mk_nil (Own _ (0 + 1))))⟩
  ·obtain ⟨m, es, r1, r2, _⟩ := hM.out
   have e1 : seg.take i = seg := take_of_length_le (by omega)
   have e2 : seg.drop i = [] := drop_eq_nil_of_le (by omega)
   rw [e1] at t1 hS
   rw [e2, append_nil] at hS
   simp (disch := omega) only [t0, t1, t5, hlt, hsl, hlo, r1, r2, go_sem, Nat.reduceEqDiff, reduceCtorEq, ↓reduceIte]
   exact hK _ rs hM hS
theorem nq_ (es : List (List AV)) (k : Int) (hsh : ∀ e ∈ es, aU_ [.str] e) (hk : 0 ≤ k) (hb : k + bo_ (bf_ [.str]) es ≤ 4611686018427387904) (h : List Row) : aa_ Tryz.prog 66 [.list 0 1 es, .val (.int .i64 k)] h (.val (.int .i64 (cm_ (b5_ aY_ [.str]) es k))) := by
 refine ak_ mixed Tryz.func66 Dm_ rfl rfl ?_ h
 have hsn : es.length ≤ bo_ (bf_ [.str]) es := hY_ (c := bf_ [.str]) (fun e he => by have q := hsh e he; unfold aU_ at q; obtain ⟨c, r, rfl, _, _⟩ := q; simp only [bf_, a1_]; omega)
 simp (disch := omega) only [zE_, c66, go_sem, Int.reduceNeg]
 refine aQ_ (fun n t h => ∃ (i : Nat) (z : Int), t 0 = .list 0 1 es ∧ t 1 = .val (.int .i64 z) ∧ t 5 = .val (.int .i64 i) ∧ n = es.length - i ∧ i ≤ es.length ∧ 0 ≤ z ∧ z + bo_ (bf_ [.str]) (es.drop i) ≤ 4611686018427387904 ∧ cm_ (b5_ aY_ [.str]) es k = cm_ (b5_ aY_ [.str]) (es.drop i) z) es.length ⟨0, k, rfl, rfl, rfl, rfl, Nat.zero_le _, hk, hb, rfl⟩ ?_
 rintro J hJ n t h ⟨i, z, t0, t1, t5, rfl, hi, hz0, hzb, hS⟩
 by_cases hlt : i < es.length
 ·rw [qp_ hlt] at hS
  rw [tx_ hlt] at hzb
  have hsd := hsh _ (getElem_mem hlt)
  obtain ⟨d, hd⟩ : ∃ d, es[i] = d := ⟨_, rfl⟩
  rw [hd] at hS hzb hsd
  have hg : es[i]? = some d := by rw [getElem?_eq_getElem hlt, hd]
  unfold aU_ at hsd
  obtain ⟨_, d0, hd0, hc0, hsd⟩ := hsd
  unfold bc_ at hc0
  obtain ⟨s0, rfl⟩ := hc0
  unfold aU_ at hsd
  subst hsd
  subst hd0
  simp only [bf_, a1_, Nat.add_zero] at hzb
  simp (disch := omega) only [t0, t1, t5, hlt, hg, go_sem, Nat.reduceEqDiff, reduceCtorEq, Int.reduceNeg, ↓reduceIte]
  refine aa_.q (dE_ (z) (by omega) (by omega) _) ?_
  by_cases q0 : s0 = aY_ (z)
  case neg =>
   simp (disch := omega) only [q0, go_sem, Int.reduceNeg, ↓reduceIte]
   exact aL_ (by rw [hS]; exact (fm_ (by simp (disch := first | assumption | omega) only [kQ_])).symm)
  simp (disch := omega) only [t1, t5, q0, go_sem, Nat.reduceEqDiff, Int.reduceNeg, ↓reduceIte]
  exact ⟨es.length - (i + 1), by omega, hJ _ _ _ ⟨i + 1, z + 1, by simp [upd, t0], by simp [upd], by simp [upd], rfl, by omega, by omega, by omega, by rw [hS]; exact lb_ (by simp (disch := first | assumption | omega) only [in_, ql_]) (by omega)⟩⟩
 ·simp (disch := omega) only [t0, t1, t5, hlt, go_sem, Nat.reduceEqDiff, reduceCtorEq, Int.reduceNeg, ↓reduceIte]
  exact aL_ (by rw [hS, drop_eq_nil_of_le (by omega)]; rfl)
theorem uP_ (x : ac_) : aU_ [.str, .list [.str], .str] (ac_.cells x) := by
 simp only [ac_.cells, aU_, bc_]
 exact ⟨_, _, rfl, ⟨_, rfl⟩, ⟨_, _, rfl, ⟨_, rfl, lR_ _⟩, ⟨_, _, rfl, ⟨_, rfl⟩, rfl⟩⟩⟩
theorem pv_ (x : ac_) (hb : ac_.sz x ≤ 1048576) : aK_ Tryz.prog 87 [.agg (ac_.cells x)] (.agg (ac_.cells x)) (fun a => ∃ l_Subs, a = .agg [.val (.string x.Name), .own l_Subs (x.Subs).length, .val (.string x.Value)]) := by
 have hsz : ac_.sz x = ByteArray.size x.Name + (aq_ ByteArray.size) x.Subs + ByteArray.size x.Value := rfl
 refine dq_ mixed Tryz.func87 xC_ rfl (fun h0 => ?_)
 simp (disch := omega) only [vH_, c87, ac_.cells, go_sem, Nat.reduceEqDiff, Nat.reduceAdd, Nat.reduceLeDiff, ↓reduceIte]
 refine iQ_ x.Subs (by omega) _ _ (fun av1 hn1 hf1 hq1 => ?_)
 obtain ⟨l_Subs, rfl⟩ := hq1
 simp (disch := omega) only [go_sem, Nat.reduceEqDiff, Nat.reduceAdd, Nat.reduceLeDiff, ↓reduceIte, cE_]
 exact ⟨_, rfl, iI_ (am_.val _ (am_.cons ((hf1.b.keep fun l q1 q2 => rU_ (t := []) (by simp) q1 q2).widen (by first | omega | (simp; done) | (simp; omega)) (Nat.le_refl _)) (am_.val _ (am_.nil _ _ _)) ⟨(by first | omega | (simp; done) | (simp; omega)), (by first | omega | (simp; done) | (simp; omega))⟩)), l_Subs, rfl⟩
theorem tR_ (xs : List ac_) : ∀ e ∈ xs.map ac_.cells, aU_ [.str, .list [.str], .str] e := by
 intro e he
 obtain ⟨x, _, q⟩ := mem_map.1 he; subst q
 exact uP_ x
theorem r2_ (xs : List ac_) : bo_ (bf_ [.str, .list [.str], .str]) (xs.map ac_.cells) ≤ 3 * (aq_ ac_.sz) xs := by
 refine iH_ (fun x => ?_) xs
 have c0 := il_ (x.Subs)
 have hsz0 : ∀ y : ac_, ac_.sz y = ByteArray.size y.Name + (aq_ ByteArray.size) y.Subs + ByteArray.size y.Value := fun _ => rfl
 simp only [hsz0] at *
 simp only [ac_.cells, bf_, a1_]
 omega
theorem oP_ (xs : List ac_) (hb : (aq_ ac_.sz) xs ≤ 1048576) : aK_ Tryz.prog 40 [.list 0 3 (xs.map ac_.cells)] (.list 0 3 (xs.map ac_.cells)) (fun a => ∃ l, a = .own l xs.length) := by
 have hx := Nat.le_trans (cz_ (f := ac_.sz) (xs := xs)) hb
 refine dq_ mixed Tryz.func40 wF_ rfl (fun h0 => ?_)
 simp (disch := omega) only [vM_, c40, go_sem, reduceCtorEq, ↓reduceIte]
 refine ⟨by omega, by omega, ?_⟩
 refine aQ_ (fun n t h => ∃ (k : Nat) (done : List (List AV)) (rest : List Row), t 0 = .list 0 3 (xs.map ac_.cells) ∧ t 3 = .own h0.length xs.length ∧ t 4 = .val (.int .i64 k) ∧ h = h0 ++ ⟨93, 3, done ++ List.replicate (xs.length - k) ([.val (.string (txt [])), .val (.slice none 0 0), .val (.string (txt []))] : List AV)⟩ :: rest ∧ n = xs.length - k ∧ k ≤ xs.length ∧ done.length = k ∧ bv_ (h0.length + 1) h.length h done ((xs.take k).map ac_.cells)) xs.length ?_ ?_
 ·exact ⟨0, [], [], rfl, rfl, rfl, by simp, rfl, Nat.zero_le _, rfl, .nil _ _ _⟩
 ·rintro J hJ n t h ⟨k, done, rest, t0, t3, t4, rfl, rfl, hk, hd, hF⟩
  have fl : (done ++ List.replicate (xs.length - k) ([.val (.string (txt [])), .val (.slice none 0 0), .val (.string (txt []))] : List AV)).length = xs.length := by simp; omega
  by_cases hlt : k < xs.length
  ·have e1 : xs.length - k = (xs.length - (k + 1)) + 1 := by omega
   have fg : (done ++ List.replicate (xs.length - k) ([.val (.string (txt [])), .val (.slice none 0 0), .val (.string (txt []))] : List AV))[k]? = some [.val (.string (txt [])), .val (.slice none 0 0), .val (.string (txt []))] := by rw [getElem?_append_right (by omega), hd, Nat.sub_self, e1]; rfl
   have fs : ∀ c : List AV, (done ++ List.replicate (xs.length - k) ([.val (.string (txt [])), .val (.slice none 0 0), .val (.string (txt []))] : List AV)).set k c = (done ++ [c]) ++ List.replicate (xs.length - (k + 1)) ([.val (.string (txt [])), .val (.slice none 0 0), .val (.string (txt []))] : List AV) := by
    intro c; rw [set_append_right _ _ (by omega), hd, Nat.sub_self, e1, replicate_succ, set_cons_zero, append_assoc]; rfl
   simp (disch := omega) only [t0, t3, t4, hlt, ac_.cells, ag_, go_sem, Nat.reduceEqDiff, Nat.reduceAdd, reduceCtorEq, ↓reduceIte]
   refine pv_ xs[k] (by have := cb_ (f := ac_.sz) (getElem_mem hlt); omega) _ _ (fun av hn hf hq => ?_)
   obtain ⟨l_Subs, rfl⟩ := hq
   simp (disch := omega) only [t4, hlt, fl, fg, fs, go_sem, Nat.reduceEqDiff, Nat.reduceAdd, ↓reduceIte, as_]
   refine ⟨xs.length - (k + 1), by omega, hJ _ _ _ ⟨k + 1, done ++ [[.val (.string xs[k].Name), .own l_Subs (xs[k].Subs).length, .val (.string xs[k].Value)]], rest ++ hn, by simp [upd, t0], by simp [upd, t3], by simp [upd], by simp, rfl, by omega, by simp [hd], ?_⟩⟩
   rw [take_succ_eq_append_getElem hlt, map_append]
   have hz := i8_ (r' := ⟨93, 3, (done ++ [[.val (.string xs[k].Name), .own l_Subs (xs[k].Subs).length, .val (.string xs[k].Value)]]) ++ List.replicate (xs.length - (k + 1)) ([.val (.string (txt [])), .val (.slice none 0 0), .val (.string (txt []))] : List AV)⟩) hF hf
   first | exact hz | simpa using hz
  ·simp (disch := omega) only [t0, t3, t4, hlt, ag_, go_sem, Nat.reduceEqDiff, reduceCtorEq, ↓reduceIte]
   have e1 : xs.length - k = 0 := by omega
   rw [e1, replicate_zero, append_nil, take_of_length_le (by omega)] at hF
   rw [e1, replicate_zero, append_nil]
   exact ⟨_, rfl, mJ_ hF (by omega), _, rfl⟩
theorem pg_ : iW_ Tryz.prog 53 aY_ [.str, .list [.str], .str] := by
 refine iW_.of ?_ ?_
 ·intro H k K hK
  refine bg_ mixed Tryz.func53 wC_ (cg_ rfl ?_)
  simp (disch := omega) only [uV_, c53, go_sem]
  refine aQ_ (fun n t h => t 0 = .val (.slice none 0 0) ∧ t 1 = .val (.int .i64 k) ∧ t 5 = .val (.int .i64 0) ∧ h = H) 0 ⟨rfl, rfl, rfl, rfl⟩ ?_
  rintro J hJ n t h ⟨t0, t1, t5, rfl⟩
  simp (disch := omega) only [t0, t1, t5, go_sem, Nat.reduceEqDiff, reduceCtorEq, Int.reduceLT, ↓reduceIte]
  exact hK
 ·intro l cnt lo hi E rs0 f H0 k K hT hl nd hrl hlo hhi hsh hk hb hK
  refine bg_ mixed Tryz.func53 wC_ (cg_ rfl ?_)
  obtain ⟨seg, hseg⟩ : ∃ seg, seg = (rs0.take hi).drop lo := ⟨_, rfl⟩
  rw [← hseg] at hsh hb hK
  have hsl : hi - lo = seg.length := by rw [hseg, length_drop, length_take]; omega
  have hsn : seg.length ≤ bo_ (bf_ [.str, .list [.str], .str]) seg := hY_ (c := bf_ [.str, .list [.str], .str]) (fun e he => by have q := hsh e he; unfold aU_ at q; obtain ⟨c, r, rfl, _, _⟩ := q; simp only [bf_, a1_]; omega)
  simp (disch := omega) only [uV_, c53, go_sem]
  refine aQ_ (fun n t h => ∃ (i : Nat) (rs : List (List AV)), t 0 = .sub l cnt lo hi ∧ t 1 = .val (.int .i64 (a3_ (bH_ aY_ [.str, .list [.str], .str]) (seg.take i) k).2) ∧ t 5 = .val (.int .i64 i) ∧ MT H0 l E 3 cnt f rs h ∧ n = seg.length - i ∧ i ≤ seg.length ∧ rs.length = cnt ∧ (rs.take hi).drop lo = (a3_ (bH_ aY_ [.str, .list [.str], .str]) (seg.take i) k).1 ++ seg.drop i) seg.length ⟨0, rs0, rfl, rfl, rfl, hT, rfl, Nat.zero_le _, hrl, hseg.symm⟩ ?_
  rintro J hJ n t h ⟨i, rs, t0, t1, t5, hM, rfl, hi1, hrl1, hS⟩
  by_cases hlt : i < seg.length
  ·have hA : (a3_ (bH_ aY_ [.str, .list [.str], .str]) (seg.take i) k).1.length = i := by rw [hR_, length_take]; omega
   have hst := l8_ (g := (bH_ aY_ [.str, .list [.str], .str])) (k := k) hlt
   have hcn := jE_ (c := bf_ [.str, .list [.str], .str]) hlt
   have hzz : (a3_ (bH_ aY_ [.str, .list [.str], .str]) (seg.take i) k).2 = k + bo_ (bf_ [.str, .list [.str], .str]) (seg.take i) := dt_ (fun x _ k => dM_ [.str, .list [.str], .str] x k) k
   have hj4 : (lo : Int) + (i : Int) < (hi : Int) := by omega
   have hj2 := (my_ hS hA hlt).2.1
   have hsd := hsh _ (getElem_mem hlt)
   have hss : ∀ d, ((rs.set (lo + i) d).take hi).drop lo = ((a3_ (bH_ aY_ [.str, .list [.str], .str]) (seg.take i) k).1 ++ [d]) ++ seg.drop (i + 1) := fun d => mc_ hS hA hlt
   clear hS hA
   generalize seg[i] = d at hst hcn hj2 hsd
   obtain ⟨z, hz⟩ : ∃ z, z = (a3_ (bH_ aY_ [.str, .list [.str], .str]) (seg.take i) k).2 := ⟨_, rfl⟩
   rw [← hz] at hst hzz t1
   have hz0 : 0 ≤ z := by omega
   unfold aU_ at hsd
   obtain ⟨_, d0, hd0, hc0, hsd⟩ := hsd
   unfold bc_ at hc0
   obtain ⟨s0, rfl⟩ := hc0
   unfold aU_ at hsd
   obtain ⟨_, d1, hd1, hc1, hsd⟩ := hsd
   unfold bc_ at hc1
   obtain ⟨e1, rfl, hc1⟩ := hc1
   unfold aU_ at hsd
   obtain ⟨_, d2, hd2, hc2, hsd⟩ := hsd
   unfold bc_ at hc2
   obtain ⟨s2, rfl⟩ := hc2
   unfold aU_ at hsd
   subst hsd
   subst hd2
   subst hd1
   subst hd0
   simp only [bf_, a1_, Nat.add_zero] at hcn
   obtain ⟨m, es, e, f2, r1, r2, r3, ho_0, nd2, hl2, hfin⟩ := hM.elem hl nd hj2
   obtain ⟨q0, rfl, ho_1⟩ := ho_0.inv_val
   obtain ⟨c1, q1, g1, w1, rfl, rfl, hw1, ho_2⟩ := ho_1.inv_cons
   obtain ⟨q2, rfl, ho_3⟩ := ho_2.inv_val
   obtain ⟨rfl, rfl⟩ := ho_3.inv_nil
   simp only [append_nil] at nd2 hl2
   have nd_1 : g1.Nodup := by first | exact nd2 | exact nd2.1 | exact nd2.2.1 | (simp_all; done)
   have hl_1 : l ∉ g1 := fun q => hl2 (by simp [q])
   have u1 : ∀ r, (h.set l r)[l]? = some r := fun r => getElem?_set_self (List.getElem?_eq_some_iff.1 r1).1
   have u2 : ∀ x, (es.set (lo + i) x)[lo + i]? = some x := fun x => getElem?_set_self (List.getElem?_eq_some_iff.1 r3).1
   simp (disch := omega) only [t0, t1, t5, hlt, hsl, hlo, r1, r2, go_sem, Nat.reduceEqDiff, reduceCtorEq, ↓reduceIte]
   refine aa_.call (dE_ (z) (by omega) (by omega) _) ?_
   simp (disch := omega) only [t0, t1, t5, hj4, r1, r2, r3, u1, u2, ls_, go_sem, Nat.reduceEqDiff, Nat.reduceAdd, Nat.reduceLeDiff, reduceCtorEq, ↓reduceIte]
   refine g7_ _ c1 e1 g1 _ (z + 1) _ (hw1.keep fun x hx => ?_) nd_1 hc1 (by omega) (by omega) (fun H1 m1 x1 y1 v1 => ?_)
   ·first | rfl | exact getElem?_set_ne (by rintro rfl; exact hl_1 hx)
   have hq1 : (a3_ (bH_ aY_ [.str]) e1 (z + 1)).2 = z + 1 + (bo_ (bf_ [.str]) e1 : Nat) := dt_ (fun x _ k => dM_ _ x k) _
   have p1 := (y1 l hl_1).trans (by first | exact u1 _ | exact r1)
   have un1 : ∀ r, (H1.set l r)[l]? = some r := fun r => getElem?_set_self (List.getElem?_eq_some_iff.1 p1).1
   simp (disch := omega) only [t0, t5, go_sem, Nat.reduceEqDiff, reduceCtorEq, ↓reduceIte]
   refine aa_.call (dE_ ((a3_ (bH_ aY_ [.str]) e1 (z + 1)).2) (by omega) (by omega) _) ?_
   simp (disch := omega) only [t5, hj4, r2, u2, ls_, set_set, p1, go_sem, Nat.reduceEqDiff, Nat.reduceAdd, ↓reduceIte]
   refine ⟨seg.length - (i + 1), by omega, hJ _ _ _ ⟨i + 1, rs.set (lo + i) _, by simp [upd, t0], by rw [hst]; simp [upd, bH_, bj_], by simp [upd], hfin _ _ _ ?_ (by first | exact un1 _ | exact p1) ?_ ?_, rfl, by omega, by simpa using hrl1, by rw [hst]; exact hss _⟩⟩
   ·simp only [ls_, x1]
   ·intro x hx
    simp only [mem_cons, not_or, append_nil] at hx
    try rw [getElem?_set_ne (Ne.symm hx.1)]
    rw [y1 x (by intro hq; first | (simp_all; done) | exact nd.2.2 _ hq _ hx rfl | exact nd.2.2 _ hx _ hq rfl | grind)]
    try rw [getElem?_set_ne (Ne.symm hx.1)]
   ·simp only [bH_, bj_]
    exact ⟨_, (aI_.mk_val _ (aI_.mk_list (v1.keep fun x hx => by first | rfl | ((try rw [getElem?_set_ne (by rintro rfl; exact hl_1 hx)]))) (aI_.mk_val _ (aI_.mk_nil (Own _ (0 + 1))))))⟩
  ·obtain ⟨m, es, r1, r2, _⟩ := hM.out
   have e1 : seg.take i = seg := take_of_length_le (by omega)
   have e2 : seg.drop i = [] := drop_eq_nil_of_le (by omega)
   rw [e1] at t1 hS
   rw [e2, append_nil] at hS
   simp (disch := omega) only [t0, t1, t5, hlt, hsl, hlo, r1, r2, go_sem, Nat.reduceEqDiff, reduceCtorEq, ↓reduceIte]
   exact hK _ rs hM hS
theorem uZ_ (x : ae_) : aU_ [.list [.str, .list [.str], .str]] (ae_.cells x) := by
 simp only [ae_.cells, aU_, bc_]
 exact ⟨_, _, rfl, ⟨_, rfl, tR_ _⟩, rfl⟩
theorem p0_ (x : ae_) (hb : ae_.sz x ≤ 1048576) : bL_ [.list [.str, .list [.str], .str]] (ae_.cells x) ≤ 3 * 1048576 := by
 have c0 := r2_ (x.Nodes)
 have hsz0 : ∀ y : ae_, ae_.sz y = (aq_ ac_.sz) y.Nodes := fun _ => rfl
 simp only [hsz0] at *
 simp only [ae_.cells, bL_, a1_]
 omega
theorem qz_ (x : ae_) (hb : ae_.sz x ≤ 1048576) : aK_ Tryz.prog 9 [.agg (ae_.cells x)] (.agg (ae_.cells x)) (fun a => ∃ l_Nodes, a = .agg [.own l_Nodes (x.Nodes).length]) := by
 have hsz : ae_.sz x = (aq_ ac_.sz) x.Nodes := rfl
 refine dq_ mixed Tryz.func9 Bb_ rfl (fun h0 => ?_)
 simp (disch := omega) only [lf9, c9, ae_.cells, go_sem, Nat.reduceEqDiff, Nat.reduceAdd, ↓reduceIte]
 refine oP_ x.Nodes (by omega) _ _ (fun av1 hn1 hf1 hq1 => ?_)
 obtain ⟨l_Nodes, rfl⟩ := hq1
 simp (disch := omega) only [go_sem, Nat.reduceEqDiff, ↓reduceIte, cE_]
 exact ⟨_, rfl, iI_ (am_.cons ((hf1.b.keep fun l q1 q2 => rU_ (t := []) (by simp) q1 q2).widen (by first | omega | (simp; done) | (simp; omega)) (Nat.le_refl _)) (am_.nil _ _ _) ⟨(by first | omega | (simp; done) | (simp; omega)), (by first | omega | (simp; done) | (simp; omega))⟩), l_Nodes, rfl⟩
theorem q6_ : o8_ Tryz.prog 16 aY_ [.list [.str, .list [.str], .str]] := by
 intro m cs ds f H k K ho_0 nd hsh hk hb hK
 unfold aU_ at hsh
 obtain ⟨_, d0, hd0, hc0, hsh⟩ := hsh
 unfold bc_ at hc0
 obtain ⟨e0, rfl, hc0⟩ := hc0
 unfold aU_ at hsh
 subst hsh
 subst hd0
 simp only [bL_, a1_, Nat.add_zero] at hb
 have hlt : ∀ x ∈ f, x < H.length := fun x hx => by
  obtain ⟨row, _, _, _, q, _⟩ := aI_.inner (fun a r f ho => Own.inner ho) ho_0 x hx
  exact (List.getElem?_eq_some_iff.1 q).1
 obtain ⟨c0, q0, g0, w0, rfl, rfl, hw0, ho_1⟩ := ho_0.inv_cons
 obtain ⟨rfl, rfl⟩ := ho_1.inv_nil
 simp only [append_nil] at nd hlt
 have nd_0 : g0.Nodup := by first | exact nd | exact nd.1 | exact nd.2.1 | (simp_all; done)
 have hl_0 : ∀ x ∈ g0, x < H.length := fun x hx => hlt x (by simp [hx])
 have cc0 := hw0.cell_list
 simp only [AV.cell, Value.oneCell'] at cc0
 refine bg_ mixed Tryz.func16 Dd_ (cg_ rfl ?_)
 simp (disch := omega) only [zu_, c16, cc0, go_sem, Nat.reduceEqDiff, ↓reduceIte]
 refine pg_ _ c0 e0 g0 _ (k) _ (hw0.keep fun x hx => ?_) nd_0 hc0 (by omega) (by omega) (fun H1 m1 x1 y1 v1 => ?_)
 ·exact getElem?_append_left (hl_0 x hx)
 have hq0 : (a3_ (bH_ aY_ [.str, .list [.str], .str]) e0 (k)).2 = k + (bo_ (bf_ [.str, .list [.str], .str]) e0 : Nat) := dt_ (fun x _ k => dM_ _ x k) _
 have p1 := (y1 H.length (fun hq => by have := hl_0 _ hq; omega)).trans (cn_ _ _)
 simp (disch := omega) only [go_sem, ↓reduceIte]
 have hfr : ∀ x, x < H.length → x ∉ (g0) → H1[x]? = H[x]? := by
  intro x hx hxf
  try simp only [mem_append, not_or] at hxf
  rw [y1 x (by intro hq; first | (simp_all; done) | exact nd.2.2 _ hq _ hx rfl | exact nd.2.2 _ hx _ hq rfl | grind)]
  exact getElem?_append_left hx
 have hfin := hK H1 (by simp only [x1, la_]; omega) (fun x hx hxf => hfr x hx (by simpa using hxf)) (by simp only [bn_, bj_]; exact ⟨_, (aI_.mk_list (v1.keep fun x hx => by rfl) (aI_.mk_nil (Own _ (0 + 1))))⟩)
 simp only [bn_, bj_] at hfin
 exact hfin
theorem og_ (x : ab_) : aU_ [.int, .str, .list [.str], .str, .int] (ab_.cells x) := by
 simp only [ab_.cells, aU_, bc_]
 exact ⟨_, _, rfl, ⟨_, rfl⟩, ⟨_, _, rfl, ⟨_, rfl⟩, ⟨_, _, rfl, ⟨_, rfl, lR_ _⟩, ⟨_, _, rfl, ⟨_, rfl⟩, ⟨_, _, rfl, ⟨_, rfl⟩, rfl⟩⟩⟩⟩⟩
theorem oQ_ (x : ab_) (hb : ab_.sz x ≤ 1048576) : bL_ [.int, .str, .list [.str], .str, .int] (ab_.cells x) ≤ 5 * 1048576 := by
 have c0 := il_ (x.Subs)
 have hsz0 : ∀ y : ab_, ab_.sz y = ByteArray.size y.Name + (aq_ ByteArray.size) y.Subs + ByteArray.size y.Value := fun _ => rfl
 simp only [hsz0] at *
 simp only [ab_.cells, bL_, a1_]
 omega
theorem kp_ (x : ab_) (hb : ab_.sz x ≤ 1048576) : aK_ Tryz.prog 11 [.agg (ab_.cells x)] (.agg (ab_.cells x)) (fun a => ∃ l_Subs, a = .agg [.val (.int .i64 x.Kind), .val (.string x.Name), .own l_Subs (x.Subs).length, .val (.string x.Value), .val (.int .i64 x.N)]) := by
 have hsz : ab_.sz x = ByteArray.size x.Name + (aq_ ByteArray.size) x.Subs + ByteArray.size x.Value := rfl
 refine dq_ mixed Tryz.func11 xv_ rfl (fun h0 => ?_)
 simp (disch := omega) only [uJ_, c11, ab_.cells, go_sem, Nat.reduceEqDiff, Nat.reduceAdd, Nat.reduceLeDiff, ↓reduceIte]
 refine iQ_ x.Subs (by omega) _ _ (fun av1 hn1 hf1 hq1 => ?_)
 obtain ⟨l_Subs, rfl⟩ := hq1
 simp (disch := omega) only [go_sem, Nat.reduceEqDiff, Nat.reduceAdd, Nat.reduceLeDiff, ↓reduceIte, cE_]
 exact ⟨_, rfl, iI_ (am_.val _ (am_.val _ (am_.cons ((hf1.b.keep fun l q1 q2 => rU_ (t := []) (by simp) q1 q2).widen (by first | omega | (simp; done) | (simp; omega)) (Nat.le_refl _)) (am_.val _ (am_.val _ (am_.nil _ _ _))) ⟨(by first | omega | (simp; done) | (simp; omega)), (by first | omega | (simp; done) | (simp; omega))⟩))), l_Subs, rfl⟩
theorem qe_ : o8_ Tryz.prog 18 aY_ [.int, .str, .list [.str], .str, .int] := by
 intro m cs ds f H k K ho_0 nd hsh hk hb hK
 unfold aU_ at hsh
 obtain ⟨_, d0, hd0, hc0, hsh⟩ := hsh
 unfold bc_ at hc0
 obtain ⟨n0, rfl⟩ := hc0
 unfold aU_ at hsh
 obtain ⟨_, d1, hd1, hc1, hsh⟩ := hsh
 unfold bc_ at hc1
 obtain ⟨s1, rfl⟩ := hc1
 unfold aU_ at hsh
 obtain ⟨_, d2, hd2, hc2, hsh⟩ := hsh
 unfold bc_ at hc2
 obtain ⟨e2, rfl, hc2⟩ := hc2
 unfold aU_ at hsh
 obtain ⟨_, d3, hd3, hc3, hsh⟩ := hsh
 unfold bc_ at hc3
 obtain ⟨s3, rfl⟩ := hc3
 unfold aU_ at hsh
 obtain ⟨_, d4, hd4, hc4, hsh⟩ := hsh
 unfold bc_ at hc4
 obtain ⟨n4, rfl⟩ := hc4
 unfold aU_ at hsh
 subst hsh
 subst hd4
 subst hd3
 subst hd2
 subst hd1
 subst hd0
 simp only [bL_, a1_, Nat.add_zero] at hb
 have hlt : ∀ x ∈ f, x < H.length := fun x hx => by
  obtain ⟨row, _, _, _, q, _⟩ := aI_.inner (fun a r f ho => Own.inner ho) ho_0 x hx
  exact (List.getElem?_eq_some_iff.1 q).1
 obtain ⟨q0, rfl, ho_1⟩ := ho_0.inv_val
 obtain ⟨q1, rfl, ho_2⟩ := ho_1.inv_val
 obtain ⟨c2, q2, g2, w2, rfl, rfl, hw2, ho_3⟩ := ho_2.inv_cons
 obtain ⟨q3, rfl, ho_4⟩ := ho_3.inv_val
 obtain ⟨q4, rfl, ho_5⟩ := ho_4.inv_val
 obtain ⟨rfl, rfl⟩ := ho_5.inv_nil
 simp only [append_nil] at nd hlt
 have nd_2 : g2.Nodup := by first | exact nd | exact nd.1 | exact nd.2.1 | (simp_all; done)
 have hl_2 : ∀ x ∈ g2, x < H.length := fun x hx => hlt x (by simp [hx])
 have cc2 := hw2.cell_list
 simp only [AV.cell, Value.oneCell'] at cc2
 refine bg_ mixed Tryz.func18 Ds_ (cg_ rfl ?_)
 simp (disch := omega) only [zo_, c18, cc2, go_sem, Nat.reduceEqDiff, Nat.reduceAdd, ↓reduceIte]
 refine g7_ _ c2 e2 g2 _ (k) _ (hw2.keep fun x hx => ?_) nd_2 hc2 (by omega) (by omega) (fun H1 m1 x1 y1 v1 => ?_)
 ·exact getElem?_append_left (hl_2 x hx)
 have hq2 : (a3_ (bH_ aY_ [.str]) e2 (k)).2 = k + (bo_ (bf_ [.str]) e2 : Nat) := dt_ (fun x _ k => dM_ _ x k) _
 have p1 := (y1 H.length (fun hq => by have := hl_2 _ hq; omega)).trans (cn_ _ _)
 simp (disch := omega) only [go_sem, ↓reduceIte]
 have hfr : ∀ x, x < H.length → x ∉ (g2) → H1[x]? = H[x]? := by
  intro x hx hxf
  try simp only [mem_append, not_or] at hxf
  rw [y1 x (by intro hq; first | (simp_all; done) | exact nd.2.2 _ hq _ hx rfl | exact nd.2.2 _ hx _ hq rfl | grind)]
  exact getElem?_append_left hx
 have hfin := hK H1 (by simp only [x1, la_]; omega) (fun x hx hxf => hfr x hx (by simpa using hxf)) (by simp only [bn_, bj_]; exact ⟨_, (aI_.mk_val _ (aI_.mk_val _ (aI_.mk_list (v1.keep fun x hx => by rfl) (aI_.mk_val _ (aI_.mk_val _ (aI_.mk_nil (Own _ (0 + 1))))))))⟩)
 simp only [bn_, bj_] at hfin
 exact hfin
theorem s6_ (xs : List ab_) : ∀ e ∈ xs.map ab_.cells, aU_ [.int, .str, .list [.str], .str, .int] e := by
 intro e he
 obtain ⟨x, _, q⟩ := mem_map.1 he; subst q
 exact og_ x
theorem rf_ (xs : List ab_) : bo_ (bf_ [.int, .str, .list [.str], .str, .int]) (xs.map ab_.cells) ≤ 5 * (aq_ ab_.sz) xs := by
 refine iH_ (fun x => ?_) xs
 have c0 := il_ (x.Subs)
 have hsz0 : ∀ y : ab_, ab_.sz y = ByteArray.size y.Name + (aq_ ByteArray.size) y.Subs + ByteArray.size y.Value := fun _ => rfl
 simp only [hsz0] at *
 simp only [ab_.cells, bf_, a1_]
 omega
theorem nT_ (xs : List ab_) (hb : (aq_ ab_.sz) xs ≤ 1048576) : aK_ Tryz.prog 41 [.list 0 5 (xs.map ab_.cells)] (.list 0 5 (xs.map ab_.cells)) (fun a => ∃ l, a = .own l xs.length) := by
 have hx := Nat.le_trans (cz_ (f := ab_.sz) (xs := xs)) hb
 refine dq_ mixed Tryz.func41 wr_ rfl (fun h0 => ?_)
 simp (disch := omega) only [v0_, c41, go_sem, reduceCtorEq, ↓reduceIte]
 refine ⟨by omega, by omega, ?_⟩
 refine aQ_ (fun n t h => ∃ (k : Nat) (done : List (List AV)) (rest : List Row), t 0 = .list 0 5 (xs.map ab_.cells) ∧ t 3 = .own h0.length xs.length ∧ t 4 = .val (.int .i64 k) ∧ h = h0 ++ ⟨44, 5, done ++ List.replicate (xs.length - k) ([.val (.int .i64 0), .val (.string (txt [])), .val (.slice none 0 0), .val (.string (txt [])), .val (.int .i64 0)] : List AV)⟩ :: rest ∧ n = xs.length - k ∧ k ≤ xs.length ∧ done.length = k ∧ bv_ (h0.length + 1) h.length h done ((xs.take k).map ab_.cells)) xs.length ?_ ?_
 ·exact ⟨0, [], [], rfl, rfl, rfl, by simp, rfl, Nat.zero_le _, rfl, .nil _ _ _⟩
 ·rintro J hJ n t h ⟨k, done, rest, t0, t3, t4, rfl, rfl, hk, hd, hF⟩
  have fl : (done ++ List.replicate (xs.length - k) ([.val (.int .i64 0), .val (.string (txt [])), .val (.slice none 0 0), .val (.string (txt [])), .val (.int .i64 0)] : List AV)).length = xs.length := by simp; omega
  by_cases hlt : k < xs.length
  ·have e1 : xs.length - k = (xs.length - (k + 1)) + 1 := by omega
   have fg : (done ++ List.replicate (xs.length - k) ([.val (.int .i64 0), .val (.string (txt [])), .val (.slice none 0 0), .val (.string (txt [])), .val (.int .i64 0)] : List AV))[k]? = some [.val (.int .i64 0), .val (.string (txt [])), .val (.slice none 0 0), .val (.string (txt [])), .val (.int .i64 0)] := by rw [getElem?_append_right (by omega), hd, Nat.sub_self, e1]; rfl
   have fs : ∀ c : List AV, (done ++ List.replicate (xs.length - k) ([.val (.int .i64 0), .val (.string (txt [])), .val (.slice none 0 0), .val (.string (txt [])), .val (.int .i64 0)] : List AV)).set k c = (done ++ [c]) ++ List.replicate (xs.length - (k + 1)) ([.val (.int .i64 0), .val (.string (txt [])), .val (.slice none 0 0), .val (.string (txt [])), .val (.int .i64 0)] : List AV) := by
    intro c; rw [set_append_right _ _ (by omega), hd, Nat.sub_self, e1, replicate_succ, set_cons_zero, append_assoc]; rfl
   simp (disch := omega) only [t0, t3, t4, hlt, ab_.cells, ag_, go_sem, Nat.reduceEqDiff, Nat.reduceAdd, reduceCtorEq, ↓reduceIte]
   refine kp_ xs[k] (by have := cb_ (f := ab_.sz) (getElem_mem hlt); omega) _ _ (fun av hn hf hq => ?_)
   obtain ⟨l_Subs, rfl⟩ := hq
   simp (disch := omega) only [t4, hlt, fl, fg, fs, go_sem, Nat.reduceEqDiff, Nat.reduceAdd, ↓reduceIte, as_]
   refine ⟨xs.length - (k + 1), by omega, hJ _ _ _ ⟨k + 1, done ++ [[.val (.int .i64 xs[k].Kind), .val (.string xs[k].Name), .own l_Subs (xs[k].Subs).length, .val (.string xs[k].Value), .val (.int .i64 xs[k].N)]], rest ++ hn, by simp [upd, t0], by simp [upd, t3], by simp [upd], by simp, rfl, by omega, by simp [hd], ?_⟩⟩
   rw [take_succ_eq_append_getElem hlt, map_append]
   have hz := i8_ (r' := ⟨44, 5, (done ++ [[.val (.int .i64 xs[k].Kind), .val (.string xs[k].Name), .own l_Subs (xs[k].Subs).length, .val (.string xs[k].Value), .val (.int .i64 xs[k].N)]]) ++ List.replicate (xs.length - (k + 1)) ([.val (.int .i64 0), .val (.string (txt [])), .val (.slice none 0 0), .val (.string (txt [])), .val (.int .i64 0)] : List AV)⟩) hF hf
   first | exact hz | simpa using hz
  ·simp (disch := omega) only [t0, t3, t4, hlt, ag_, go_sem, Nat.reduceEqDiff, reduceCtorEq, ↓reduceIte]
   have e1 : xs.length - k = 0 := by omega
   rw [e1, replicate_zero, append_nil, take_of_length_le (by omega)] at hF
   rw [e1, replicate_zero, append_nil]
   exact ⟨_, rfl, mJ_ hF (by omega), _, rfl⟩
theorem oL_ : iW_ Tryz.prog 54 aY_ [.int, .str, .list [.str], .str, .int] := by
 refine iW_.of ?_ ?_
 ·intro H k K hK
  refine bg_ mixed Tryz.func54 xc_ (cg_ rfl ?_)
  simp (disch := omega) only [wb_, c54, go_sem]
  refine aQ_ (fun n t h => t 0 = .val (.slice none 0 0) ∧ t 1 = .val (.int .i64 k) ∧ t 5 = .val (.int .i64 0) ∧ h = H) 0 ⟨rfl, rfl, rfl, rfl⟩ ?_
  rintro J hJ n t h ⟨t0, t1, t5, rfl⟩
  simp (disch := omega) only [t0, t1, t5, go_sem, Nat.reduceEqDiff, reduceCtorEq, Int.reduceLT, ↓reduceIte]
  exact hK
 ·intro l cnt lo hi E rs0 f H0 k K hT hl nd hrl hlo hhi hsh hk hb hK
  refine bg_ mixed Tryz.func54 xc_ (cg_ rfl ?_)
  obtain ⟨seg, hseg⟩ : ∃ seg, seg = (rs0.take hi).drop lo := ⟨_, rfl⟩
  rw [← hseg] at hsh hb hK
  have hsl : hi - lo = seg.length := by rw [hseg, length_drop, length_take]; omega
  have hsn : seg.length ≤ bo_ (bf_ [.int, .str, .list [.str], .str, .int]) seg := hY_ (c := bf_ [.int, .str, .list [.str], .str, .int]) (fun e he => by have q := hsh e he; unfold aU_ at q; obtain ⟨c, r, rfl, _, _⟩ := q; simp only [bf_, a1_]; omega)
  simp (disch := omega) only [wb_, c54, go_sem]
  refine aQ_ (fun n t h => ∃ (i : Nat) (rs : List (List AV)), t 0 = .sub l cnt lo hi ∧ t 1 = .val (.int .i64 (a3_ (bH_ aY_ [.int, .str, .list [.str], .str, .int]) (seg.take i) k).2) ∧ t 5 = .val (.int .i64 i) ∧ MT H0 l E 5 cnt f rs h ∧ n = seg.length - i ∧ i ≤ seg.length ∧ rs.length = cnt ∧ (rs.take hi).drop lo = (a3_ (bH_ aY_ [.int, .str, .list [.str], .str, .int]) (seg.take i) k).1 ++ seg.drop i) seg.length ⟨0, rs0, rfl, rfl, rfl, hT, rfl, Nat.zero_le _, hrl, hseg.symm⟩ ?_
  rintro J hJ n t h ⟨i, rs, t0, t1, t5, hM, rfl, hi1, hrl1, hS⟩
  by_cases hlt : i < seg.length
  ·have hA : (a3_ (bH_ aY_ [.int, .str, .list [.str], .str, .int]) (seg.take i) k).1.length = i := by rw [hR_, length_take]; omega
   have hst := l8_ (g := (bH_ aY_ [.int, .str, .list [.str], .str, .int])) (k := k) hlt
   have hcn := jE_ (c := bf_ [.int, .str, .list [.str], .str, .int]) hlt
   have hzz : (a3_ (bH_ aY_ [.int, .str, .list [.str], .str, .int]) (seg.take i) k).2 = k + bo_ (bf_ [.int, .str, .list [.str], .str, .int]) (seg.take i) := dt_ (fun x _ k => dM_ [.int, .str, .list [.str], .str, .int] x k) k
   have hj4 : (lo : Int) + (i : Int) < (hi : Int) := by omega
   have hj2 := (my_ hS hA hlt).2.1
   have hsd := hsh _ (getElem_mem hlt)
   have hss : ∀ d, ((rs.set (lo + i) d).take hi).drop lo = ((a3_ (bH_ aY_ [.int, .str, .list [.str], .str, .int]) (seg.take i) k).1 ++ [d]) ++ seg.drop (i + 1) := fun d => mc_ hS hA hlt
   clear hS hA
   generalize seg[i] = d at hst hcn hj2 hsd
   obtain ⟨z, hz⟩ : ∃ z, z = (a3_ (bH_ aY_ [.int, .str, .list [.str], .str, .int]) (seg.take i) k).2 := ⟨_, rfl⟩
   rw [← hz] at hst hzz t1
   have hz0 : 0 ≤ z := by omega
   unfold aU_ at hsd
   obtain ⟨_, d0, hd0, hc0, hsd⟩ := hsd
   unfold bc_ at hc0
   obtain ⟨n0, rfl⟩ := hc0
   unfold aU_ at hsd
   obtain ⟨_, d1, hd1, hc1, hsd⟩ := hsd
   unfold bc_ at hc1
   obtain ⟨s1, rfl⟩ := hc1
   unfold aU_ at hsd
   obtain ⟨_, d2, hd2, hc2, hsd⟩ := hsd
   unfold bc_ at hc2
   obtain ⟨e2, rfl, hc2⟩ := hc2
   unfold aU_ at hsd
   obtain ⟨_, d3, hd3, hc3, hsd⟩ := hsd
   unfold bc_ at hc3
   obtain ⟨s3, rfl⟩ := hc3
   unfold aU_ at hsd
   obtain ⟨_, d4, hd4, hc4, hsd⟩ := hsd
   unfold bc_ at hc4
   obtain ⟨n4, rfl⟩ := hc4
   unfold aU_ at hsd
   subst hsd
   subst hd4
   subst hd3
   subst hd2
   subst hd1
   subst hd0
   simp only [bf_, a1_, Nat.add_zero] at hcn
   obtain ⟨m, es, e, f2, r1, r2, r3, ho_0, nd2, hl2, hfin⟩ := hM.elem hl nd hj2
   obtain ⟨q0, rfl, ho_1⟩ := ho_0.inv_val
   obtain ⟨q1, rfl, ho_2⟩ := ho_1.inv_val
   obtain ⟨c2, q2, g2, w2, rfl, rfl, hw2, ho_3⟩ := ho_2.inv_cons
   obtain ⟨q3, rfl, ho_4⟩ := ho_3.inv_val
   obtain ⟨q4, rfl, ho_5⟩ := ho_4.inv_val
   obtain ⟨rfl, rfl⟩ := ho_5.inv_nil
   simp only [append_nil] at nd2 hl2
   have nd_2 : g2.Nodup := by first | exact nd2 | exact nd2.1 | exact nd2.2.1 | (simp_all; done)
   have hl_2 : l ∉ g2 := fun q => hl2 (by simp [q])
   have u1 : ∀ r, (h.set l r)[l]? = some r := fun r => getElem?_set_self (List.getElem?_eq_some_iff.1 r1).1
   have u2 : ∀ x, (es.set (lo + i) x)[lo + i]? = some x := fun x => getElem?_set_self (List.getElem?_eq_some_iff.1 r3).1
   simp (disch := omega) only [t0, t1, t5, hlt, hsl, hj4, hlo, r1, r2, r3, go_sem, Nat.reduceEqDiff, Nat.reduceAdd, Nat.reduceLeDiff, reduceCtorEq, ↓reduceIte]
   refine aa_.call (dE_ (z + 1) (by omega) (by omega) _) ?_
   simp (disch := omega) only [t0, t5, hj4, r2, u1, u2, ls_, set_set, go_sem, Nat.reduceEqDiff, Nat.reduceAdd, Nat.reduceLeDiff, reduceCtorEq, ↓reduceIte]
   refine g7_ _ c2 e2 g2 _ (z + 1 + 1) _ (hw2.keep fun x hx => ?_) nd_2 hc2 (by omega) (by omega) (fun H1 m1 x1 y1 v1 => ?_)
   ·first | rfl | exact getElem?_set_ne (by rintro rfl; exact hl_2 hx)
   have hq2 : (a3_ (bH_ aY_ [.str]) e2 (z + 1 + 1)).2 = z + 1 + 1 + (bo_ (bf_ [.str]) e2 : Nat) := dt_ (fun x _ k => dM_ _ x k) _
   have p1 := (y1 l hl_2).trans (by first | exact u1 _ | exact r1)
   have un1 : ∀ r, (H1.set l r)[l]? = some r := fun r => getElem?_set_self (List.getElem?_eq_some_iff.1 p1).1
   simp (disch := omega) only [t0, t5, go_sem, Nat.reduceEqDiff, reduceCtorEq, ↓reduceIte]
   refine aa_.call (dE_ ((a3_ (bH_ aY_ [.str]) e2 (z + 1 + 1)).2) (by omega) (by omega) _) ?_
   simp (disch := omega) only [t0, t5, hj4, r2, u2, ls_, set_set, p1, un1, go_sem, Nat.reduceEqDiff, Nat.reduceAdd, Nat.reduceLeDiff, reduceCtorEq, ↓reduceIte]
   refine ⟨seg.length - (i + 1), by omega, hJ _ _ _ ⟨i + 1, rs.set (lo + i) _, by simp [upd, t0], by rw [hst]; simp [upd, bH_, bj_], by simp [upd], hfin _ _ _ ?_ (by first | exact un1 _ | exact p1) ?_ ?_, rfl, by omega, by simpa using hrl1, by rw [hst]; exact hss _⟩⟩
   ·simp only [ls_, x1]
   ·intro x hx
    simp only [mem_cons, not_or, append_nil] at hx
    try rw [getElem?_set_ne (Ne.symm hx.1)]
    rw [y1 x (by intro hq; first | (simp_all; done) | exact nd.2.2 _ hq _ hx rfl | exact nd.2.2 _ hx _ hq rfl | grind)]
    try rw [getElem?_set_ne (Ne.symm hx.1)]
   ·simp only [bH_, bj_]
    exact ⟨_, (aI_.mk_val _ (aI_.mk_val _ (aI_.mk_list (v1.keep fun x hx => by first | rfl | ((try rw [getElem?_set_ne (by rintro rfl; exact hl_2 hx)]))) (aI_.mk_val _ (aI_.mk_val _ (aI_.mk_nil (Own _ (0 + 1))))))))⟩
  ·obtain ⟨m, es, r1, r2, _⟩ := hM.out
   have e1 : seg.take i = seg := take_of_length_le (by omega)
   have e2 : seg.drop i = [] := drop_eq_nil_of_le (by omega)
   rw [e1] at t1 hS
   rw [e2, append_nil] at hS
   simp (disch := omega) only [t0, t1, t5, hlt, hsl, hlo, r1, r2, go_sem, Nat.reduceEqDiff, reduceCtorEq, ↓reduceIte]
   exact hK _ rs hM hS
theorem oH_ (es : List (List AV)) (k : Int) (hsh : ∀ e ∈ es, aU_ [.int, .str, .list [.str], .str, .int] e) (hk : 0 ≤ k) (hb : k + bo_ (bf_ [.int, .str, .list [.str], .str, .int]) es ≤ 4611686018427387904) (h : List Row) : aa_ Tryz.prog 56 [.list 0 5 es, .val (.int .i64 k)] h (.val (.int .i64 (cm_ (b5_ aY_ [.int, .str, .list [.str], .str, .int]) es k))) := by
 refine ak_ mixed Tryz.func56 Dt_ rfl rfl ?_ h
 have hsn : es.length ≤ bo_ (bf_ [.int, .str, .list [.str], .str, .int]) es := hY_ (c := bf_ [.int, .str, .list [.str], .str, .int]) (fun e he => by have q := hsh e he; unfold aU_ at q; obtain ⟨c, r, rfl, _, _⟩ := q; simp only [bf_, a1_]; omega)
 simp (disch := omega) only [AE_, c56, go_sem, Int.reduceNeg]
 refine aQ_ (fun n t h => ∃ (i : Nat) (z : Int), t 0 = .list 0 5 es ∧ t 1 = .val (.int .i64 z) ∧ t 5 = .val (.int .i64 i) ∧ n = es.length - i ∧ i ≤ es.length ∧ 0 ≤ z ∧ z + bo_ (bf_ [.int, .str, .list [.str], .str, .int]) (es.drop i) ≤ 4611686018427387904 ∧ cm_ (b5_ aY_ [.int, .str, .list [.str], .str, .int]) es k = cm_ (b5_ aY_ [.int, .str, .list [.str], .str, .int]) (es.drop i) z) es.length ⟨0, k, rfl, rfl, rfl, rfl, Nat.zero_le _, hk, hb, rfl⟩ ?_
 rintro J hJ n t h ⟨i, z, t0, t1, t5, rfl, hi, hz0, hzb, hS⟩
 by_cases hlt : i < es.length
 ·rw [qp_ hlt] at hS
  rw [tx_ hlt] at hzb
  have hsd := hsh _ (getElem_mem hlt)
  obtain ⟨d, hd⟩ : ∃ d, es[i] = d := ⟨_, rfl⟩
  rw [hd] at hS hzb hsd
  have hg : es[i]? = some d := by rw [getElem?_eq_getElem hlt, hd]
  unfold aU_ at hsd
  obtain ⟨_, d0, hd0, hc0, hsd⟩ := hsd
  unfold bc_ at hc0
  obtain ⟨n0, rfl⟩ := hc0
  unfold aU_ at hsd
  obtain ⟨_, d1, hd1, hc1, hsd⟩ := hsd
  unfold bc_ at hc1
  obtain ⟨s1, rfl⟩ := hc1
  unfold aU_ at hsd
  obtain ⟨_, d2, hd2, hc2, hsd⟩ := hsd
  unfold bc_ at hc2
  obtain ⟨e2, rfl, hc2⟩ := hc2
  unfold aU_ at hsd
  obtain ⟨_, d3, hd3, hc3, hsd⟩ := hsd
  unfold bc_ at hc3
  obtain ⟨s3, rfl⟩ := hc3
  unfold aU_ at hsd
  obtain ⟨_, d4, hd4, hc4, hsd⟩ := hsd
  unfold bc_ at hc4
  obtain ⟨n4, rfl⟩ := hc4
  unfold aU_ at hsd
  subst hsd
  subst hd4
  subst hd3
  subst hd2
  subst hd1
  subst hd0
  simp only [bf_, a1_, Nat.add_zero] at hzb
  simp (disch := omega) only [t0, t1, t5, hlt, hg, go_sem, Nat.reduceEqDiff, Nat.reduceAdd, reduceCtorEq, Int.reduceNeg, ↓reduceIte]
  by_cases q0 : n0 = z
  case neg =>
   simp (disch := omega) only [q0, go_sem, Int.reduceNeg, ↓reduceIte]
   exact aL_ (by rw [hS]; exact (fm_ (by simp (disch := first | assumption | omega) only [n6_])).symm)
  simp (disch := omega) only [t0, t1, t5, hg, q0, go_sem, Nat.reduceEqDiff, Nat.reduceAdd, Nat.reduceLeDiff, reduceCtorEq, Int.reduceNeg, ↓reduceIte]
  refine aa_.q (dE_ (z + 1) (by omega) (by omega) _) ?_
  by_cases q1 : s1 = aY_ (z + 1)
  case neg =>
   simp (disch := omega) only [q1, go_sem, Int.reduceNeg, ↓reduceIte]
   exact aL_ (by rw [hS]; exact (fm_ (by simp (disch := first | assumption | omega) only [h5_, kQ_])).symm)
  simp (disch := omega) only [t0, t5, hg, q1, go_sem, Nat.reduceEqDiff, Nat.reduceAdd, Nat.reduceLeDiff, reduceCtorEq, Int.reduceNeg, ↓reduceIte]
  refine aa_.call (nq_ e2 (z + 1 + 1) hc2 (by omega) (by omega) _) ?_
  have hq2 := mb_ (c := bf_ [.str]) (fun e he k hk => lr_ (mt := aY_) [.str] e k (hc2 e he) hk) (z + 1 + 1) (by omega)
  by_cases q2 : (cm_ (b5_ aY_ [.str]) e2 (z + 1 + 1)) < 0
  ·simp (disch := omega) only [q2, go_sem, Int.reduceNeg, ↓reduceIte]
   exact aL_ (by rw [hS]; exact (fm_ (by simp (disch := first | assumption | omega) only [h5_, in_, s7_])).symm)
  simp (disch := omega) only [t0, t5, hg, q2, go_sem, Nat.reduceEqDiff, Nat.reduceAdd, Nat.reduceLeDiff, reduceCtorEq, Int.reduceNeg, ↓reduceIte]
  refine aa_.q (dE_ ((cm_ (b5_ aY_ [.str]) e2 (z + 1 + 1))) (by omega) (by omega) _) ?_
  by_cases q3 : s3 = aY_ ((cm_ (b5_ aY_ [.str]) e2 (z + 1 + 1)))
  case neg =>
   simp (disch := omega) only [q3, go_sem, Int.reduceNeg, ↓reduceIte]
   exact aL_ (by rw [hS]; exact (fm_ (by simp (disch := first | assumption | omega) only [h5_, in_, kQ_, lm_])).symm)
  simp (disch := omega) only [t0, t5, hg, q3, go_sem, Nat.reduceEqDiff, Nat.reduceAdd, Nat.reduceLeDiff, reduceCtorEq, Int.reduceNeg, ↓reduceIte]
  by_cases q4 : n4 = (cm_ (b5_ aY_ [.str]) e2 (z + 1 + 1)) + 1
  case neg =>
   simp (disch := omega) only [q4, go_sem, Int.reduceNeg, ↓reduceIte]
   exact aL_ (by rw [hS]; exact (fm_ (by simp (disch := first | assumption | omega) only [h5_, n6_, in_, lm_])).symm)
  simp (disch := omega) only [t5, q4, go_sem, Nat.reduceEqDiff, Int.reduceNeg, ↓reduceIte]
  exact ⟨es.length - (i + 1), by omega, hJ _ _ _ ⟨i + 1, (cm_ (b5_ aY_ [.str]) e2 (z + 1 + 1)) + 1 + 1, by simp [upd, t0], by simp [upd], by simp [upd], rfl, by omega, by omega, by omega, by rw [hS]; exact lb_ (by simp (disch := first | assumption | omega) only [h5_, in_, lm_, ql_]) (by omega)⟩⟩
 ·simp (disch := omega) only [t0, t1, t5, hlt, go_sem, Nat.reduceEqDiff, reduceCtorEq, Int.reduceNeg, ↓reduceIte]
  exact aL_ (by rw [hS, drop_eq_nil_of_le (by omega)]; rfl)
theorem ov_ (x : at_) : aU_ [.int, .int, .list [.int, .str, .list [.str], .str, .int]] (at_.cells x) := by
 simp only [at_.cells, aU_, bc_]
 exact ⟨_, _, rfl, ⟨_, rfl⟩, ⟨_, _, rfl, ⟨_, rfl⟩, ⟨_, _, rfl, ⟨_, rfl, s6_ _⟩, rfl⟩⟩⟩
theorem kh_ (x : at_) (hb : at_.sz x ≤ 1048576) : bL_ [.int, .int, .list [.int, .str, .list [.str], .str, .int]] (at_.cells x) ≤ 7 * 1048576 := by
 have c0 := rf_ (x.Events)
 have hsz0 : ∀ y : at_, at_.sz y = (aq_ ab_.sz) y.Events := fun _ => rfl
 simp only [hsz0] at *
 simp only [at_.cells, bL_, a1_]
 omega
theorem oY_ (x : at_) (hb : at_.sz x ≤ 1048576) : aK_ Tryz.prog 10 [.agg (at_.cells x)] (.agg (at_.cells x)) (fun a => ∃ l_Events, a = .agg [.val (.int .i64 x.Depth), .val (.int .i64 x.Restarts), .own l_Events (x.Events).length]) := by
 have hsz : at_.sz x = (aq_ ab_.sz) x.Events := rfl
 refine dq_ mixed Tryz.func10 xq_ rfl (fun h0 => ?_)
 simp (disch := omega) only [us_, c10, at_.cells, go_sem, Nat.reduceEqDiff, Nat.reduceAdd, Nat.reduceLeDiff, ↓reduceIte]
 refine nT_ x.Events (by omega) _ _ (fun av1 hn1 hf1 hq1 => ?_)
 obtain ⟨l_Events, rfl⟩ := hq1
 simp (disch := omega) only [go_sem, Nat.reduceEqDiff, Nat.reduceAdd, ↓reduceIte, cE_]
 exact ⟨_, rfl, iI_ (am_.val _ (am_.val _ (am_.cons ((hf1.b.keep fun l q1 q2 => rU_ (t := []) (by simp) q1 q2).widen (by first | omega | (simp; done) | (simp; omega)) (Nat.le_refl _)) (am_.nil _ _ _) ⟨(by first | omega | (simp; done) | (simp; omega)), (by first | omega | (simp; done) | (simp; omega))⟩))), l_Events, rfl⟩
theorem lk_ : o8_ Tryz.prog 17 aY_ [.int, .int, .list [.int, .str, .list [.str], .str, .int]] := by
 intro m cs ds f H k K ho_0 nd hsh hk hb hK
 unfold aU_ at hsh
 obtain ⟨_, d0, hd0, hc0, hsh⟩ := hsh
 unfold bc_ at hc0
 obtain ⟨n0, rfl⟩ := hc0
 unfold aU_ at hsh
 obtain ⟨_, d1, hd1, hc1, hsh⟩ := hsh
 unfold bc_ at hc1
 obtain ⟨n1, rfl⟩ := hc1
 unfold aU_ at hsh
 obtain ⟨_, d2, hd2, hc2, hsh⟩ := hsh
 unfold bc_ at hc2
 obtain ⟨e2, rfl, hc2⟩ := hc2
 unfold aU_ at hsh
 subst hsh
 subst hd2
 subst hd1
 subst hd0
 simp only [bL_, a1_, Nat.add_zero] at hb
 have hlt : ∀ x ∈ f, x < H.length := fun x hx => by
  obtain ⟨row, _, _, _, q, _⟩ := aI_.inner (fun a r f ho => Own.inner ho) ho_0 x hx
  exact (List.getElem?_eq_some_iff.1 q).1
 obtain ⟨q0, rfl, ho_1⟩ := ho_0.inv_val
 obtain ⟨q1, rfl, ho_2⟩ := ho_1.inv_val
 obtain ⟨c2, q2, g2, w2, rfl, rfl, hw2, ho_3⟩ := ho_2.inv_cons
 obtain ⟨rfl, rfl⟩ := ho_3.inv_nil
 simp only [append_nil] at nd hlt
 have nd_2 : g2.Nodup := by first | exact nd | exact nd.1 | exact nd.2.1 | (simp_all; done)
 have hl_2 : ∀ x ∈ g2, x < H.length := fun x hx => hlt x (by simp [hx])
 have cc2 := hw2.cell_list
 simp only [AV.cell, Value.oneCell'] at cc2
 refine bg_ mixed Tryz.func17 Dh_ (cg_ rfl ?_)
 simp (disch := omega) only [Cu_, c17, cc2, go_sem, Nat.reduceEqDiff, Nat.reduceAdd, ↓reduceIte]
 refine oL_ _ c2 e2 g2 _ (k) _ (hw2.keep fun x hx => ?_) nd_2 hc2 (by omega) (by omega) (fun H1 m1 x1 y1 v1 => ?_)
 ·exact getElem?_append_left (hl_2 x hx)
 have hq2 : (a3_ (bH_ aY_ [.int, .str, .list [.str], .str, .int]) e2 (k)).2 = k + (bo_ (bf_ [.int, .str, .list [.str], .str, .int]) e2 : Nat) := dt_ (fun x _ k => dM_ _ x k) _
 have p1 := (y1 H.length (fun hq => by have := hl_2 _ hq; omega)).trans (cn_ _ _)
 simp (disch := omega) only [go_sem, ↓reduceIte]
 have hfr : ∀ x, x < H.length → x ∉ (g2) → H1[x]? = H[x]? := by
  intro x hx hxf
  try simp only [mem_append, not_or] at hxf
  rw [y1 x (by intro hq; first | (simp_all; done) | exact nd.2.2 _ hq _ hx rfl | exact nd.2.2 _ hx _ hq rfl | grind)]
  exact getElem?_append_left hx
 have hfin := hK H1 (by simp only [x1, la_]; omega) (fun x hx hxf => hfr x hx (by simpa using hxf)) (by simp only [bn_, bj_]; exact ⟨_, (aI_.mk_val _ (aI_.mk_val _ (aI_.mk_list (v1.keep fun x hx => by rfl) (aI_.mk_nil (Own _ (0 + 1))))))⟩)
 simp only [bn_, bj_] at hfin
 exact hfin
theorem kD_ (ds : List AV) (k : Int) (hsh : aU_ [.int, .int, .list [.int, .str, .list [.str], .str, .int]] ds) (hp : ds.all AV.flat = true) (hk : 0 ≤ k) (hb : k + bL_ [.int, .int, .list [.int, .str, .list [.str], .str, .int]] ds ≤ 4611686018427387904) (h : List Row) : aa_ Tryz.prog 19 [.agg ds, .val (.int .i64 k)] h (.val (.int .i64 (f2_ aY_ [.int, .int, .list [.int, .str, .list [.str], .str, .int]] ds k))) := by
 unfold aU_ at hsh
 obtain ⟨_, d0, hd0, hc0, hsh⟩ := hsh
 unfold bc_ at hc0
 obtain ⟨n0, rfl⟩ := hc0
 unfold aU_ at hsh
 obtain ⟨_, d1, hd1, hc1, hsh⟩ := hsh
 unfold bc_ at hc1
 obtain ⟨n1, rfl⟩ := hc1
 unfold aU_ at hsh
 obtain ⟨_, d2, hd2, hc2, hsh⟩ := hsh
 unfold bc_ at hc2
 obtain ⟨e2, rfl, hc2⟩ := hc2
 unfold aU_ at hsh
 subst hsh
 subst hd2
 subst hd1
 subst hd0
 refine ak_ mixed Tryz.func19 CU_ rfl (by simp only [all_cons, all_nil, AV.plain, hp]; rfl) ?_ h
 simp only [bL_, a1_, Nat.add_zero] at hb
 simp (disch := omega) only [zk_, c19, go_sem, Nat.reduceEqDiff, Nat.reduceAdd, Int.reduceNeg, ↓reduceIte]
 refine aa_.call (oH_ e2 (k) hc2 (by omega) (by omega) _) ?_
 have hq2 := mb_ (c := bf_ [.int, .str, .list [.str], .str, .int]) (fun e he k hk => lr_ (mt := aY_) [.int, .str, .list [.str], .str, .int] e k (hc2 e he) hk) (k) (by omega)
 by_cases q2 : (cm_ (b5_ aY_ [.int, .str, .list [.str], .str, .int]) e2 (k)) < 0
 ·simp (disch := omega) only [q2, go_sem, Int.reduceNeg, ↓reduceIte]
  exact aL_ (by simp only [f2_, bZ_, *, if_true])
 simp (disch := omega) only [q2, go_sem, Nat.reduceEqDiff, Int.reduceNeg, ↓reduceIte]
 exact aL_ (by simp only [f2_, bZ_, *, if_false])
end Go.Proofs.YtfkddbkjmkceaaaGreatDoor
