/-
 Contracts of functions of this program, over abstract values. Conditions: as each theorem says.
-/
import Derived.Test.YtfplhbjggecnpaaGreatDoorGnFnExactTreeAfter
import Derived.Test.YtfplhbjggecnpaaGreatDoorAwC
import Derived.Test.YtfplhbjggecnpaaGreatDoorPlNum
namespace Go.Proofs.YtfplhbjggecnpaaGreatDoor
open List
open Go.AW
set_option linter.unusedVariables false
set_option linter.unusedSimpArgs false
set_option maxRecDepth 4000
def aZ_ (k : Int) : ByteArray := if k ≤ 0 then txt [109, 48] else txt (109 :: ce_ k.toNat)
theorem qu_ (u : Nat) (h : u ≠ 0) : ce_ u = ce_ (u / 10) ++ [UInt8.ofNat (48 + u % 10)] := by
 unfold ce_
 rw [if_neg h, Lib.decDigits]
 by_cases q : u < 10
 ·rw [dif_pos q, if_pos (by omega)]
  have : u % 10 = u := by omega
  rw [this]; rfl
 ·rw [dif_neg q, if_neg (by omega)]
theorem ps_ (u : Nat) (h : u ≤ 4611686018427387904) : (ce_ u).length ≤ 19 := by
 unfold ce_
 split
 ·simp
 ·rw [Go.Lib.decDigits_length]; exact hF_ 18 _ (by omega)
def c54 : LC :=
 .seq (.ops [.s 2 (.mov (.const (.string ⟨#[]⟩)))]) (.seq (.seq (.ops [.m 4 0, .bk 5 .leq false 4 0]) (.cond (.tmp 5) (.seq (.ops [.s 2 (.mov (.const (.string ⟨#[109, 48]⟩)))]) .ret) .skip)) (.seq (.ops [.s 3 (.mov
 (.const (.string ⟨#[]⟩)))]) (.seq (.block 0 (.loop (.seq (.seq (.ops [.m 6 0, .bk 7 .gtr false 6 0]) (.cond (.tmp 7) .skip (.exit 0))) (.block 1 (.seq (.ops [.m 8 0, .bk 9 .rem false 8 10, .s 10 (.bin .add false (.const
 (.int .i64 48)) (.tmp 9)), .s 11 (.convInt .u8 (.tmp 10)), .s 12 (.buildSlice 5 1 (.int .u8 0) 1 [(0, .tmp 11)]), .s 13 (.toStr (.tmp 12)), .m 14 3, .bb 15 .add false 13 14, .m 3 15]) (.ops [.m 16 0, .bk 17 .quo false 16
 10, .m 0 17])))))) (.seq (.ops [.m 18 3, .s 19 (.bin .add false (.const (.string ⟨#[109]⟩)) (.tmp 18)), .m 2 19]) .ret))))
def uu_ : LF := ⟨1, 20, c54, [.tmp 2]⟩
theorem DM_ : at_ Tryz.prog Tryz.f54 uu_ := ai_
theorem dz_ (k : Int) (hk : 0 ≤ k) (hb : k ≤ 4611686018427387904) (h : List Row) : aa_ Tryz.prog 54 [.val (.int .i64 k)] h (.val (.string (aZ_ k))) := by
 refine aj_ mixed Tryz.func54 DM_ rfl rfl ?_ h
 by_cases h0 : k ≤ 0
 ·simp (disch := omega) only [uu_, c54, h0, go_sem, reduceCtorEq, ↓reduceIte]
  exact bs_ (by rw [aZ_, if_pos h0])
 ·simp (disch := omega) only [uu_, c54, h0, go_sem, reduceCtorEq, ↓reduceIte]
  have hL := ps_ k.toNat (by omega)
  refine aL_ (fun n t h => ∃ (u : Nat) (out : List UInt8), t 0 = .val (.int .i64 u) ∧ t 3 = .val (.string (txt out)) ∧ u = n ∧ u ≤ 4611686018427387904 ∧ ce_ k.toNat = ce_ u ++ out) k.toNat ⟨k.toNat, [], by simp [upd, fQ_]; omega, rfl, rfl, by omega, by simp⟩ ?_
  rintro J hJ n t h ⟨u, out, t0, t3, rfl, hu, hS⟩
  by_cases hz : 0 < u
  ·have hm := qu_ u (by omega)
   have hlen := congrArg List.length hS
   simp only [la_] at hlen
   have hl1 : ([UInt8.ofNat (48 + u % 10)] : List UInt8).length + out.length ≤ 9223372036854775807 := by simp only [lc_, ln_]; omega
   have e1 : ((u : Int) % 10).toNat = u % 10 := by omega
   have e2 : (48 + (u : Int) % 10).toNat = 48 + u % 10 := by omega
   have e3 : ((u : Int) / 10) = ((u / 10 : Nat) : Int) := by omega
   simp (disch := omega) only [t0, t3, hz, e2, e3, j4_ _ _ _ hl1, go_sem, Nat.reduceEqDiff, reduceCtorEq, ↓reduceIte]
   exact ⟨u / 10, by omega, hJ _ _ _ ⟨u / 10, UInt8.ofNat (48 + u % 10) :: out, by simp [upd], by simp [upd], rfl, by omega, by rw [hS, hm, append_assoc]; rfl⟩⟩
  ·have hz' : u = 0 := by omega
   subst hz'
   have hlen := congrArg List.length hS
   simp only [la_] at hlen
   have hl2 : ([109] : List UInt8).length + out.length ≤ 9223372036854775807 := by simp only [lc_, ln_]; omega
   simp (disch := omega) only [t0, t3, j4_ _ _ _ hl2, go_sem, Nat.reduceEqDiff, Int.reduceLT, ↓reduceIte]
   exact bs_ (by rw [aZ_, if_neg h0, hS]; rfl)
def c55 : LC :=
 .seq (.ops [.ki 4 0]) (.seq (.seq (.ops [.ki 5 0]) (.block 0 (.loop (.seq (.seq (.ops [.m 6 5, .m 7 0, .ll 8 7, .bb 9 .lss false 6 8]) (.cond (.tmp 9) .skip (.exit 0))) (.seq (.block 1 (.seq (.ops [.m 12 0, .m 13 5, .m
 14 1, .c1 15 54 14, .ia 16 1 12 13, .st 1 16 15]) (.ops [.m 17 1, .bk 18 .add false 17 1, .m 1 18]))) (.ops [.m 10 5, .bk 11 .add false 10 1, .m 5 11])))))) (.seq (.ops [.m 19 1, .m 4 19]) .ret))
def uR_ : LF := ⟨2, 20, c55, [.tmp 4]⟩
theorem xV_ : at_ Tryz.prog Tryz.f55 uR_ := ai_
def z6_ : LC :=
 .seq (.ops [.ki 4 0]) (.seq (.seq (.ops [.ki 5 0]) (.block 0 (.loop (.seq (.seq (.ops [.m 6 5, .m 7 0, .ll 8 7, .bb 9 .lss false 6 8]) (.cond (.tmp 9) .skip (.exit 0))) (.seq (.block 1 (.seq (.seq (.dops [.m 12 0, .m 13
 5, .ia 14 1 12 13, .ln 15 14, .m 16 1, .c1 17 54 16, .bb 18 .neq false 15 17]) (.cond (.tmp 18) (.seq (.ops [.s 4 (.mov (.const (.int .i64 (-1))))]) .ret) .skip)) (.ops [.m 19 1, .bk 20 .add false 19 1, .m 1 20]))) (.ops
 [.m 10 5, .bk 11 .add false 10 1, .m 5 11])))))) (.seq (.ops [.m 21 1, .m 4 21]) .ret))
def xj_ : LF := ⟨2, 22, z6_, [.tmp 4]⟩
theorem CY_ : at_ Tryz.prog Tryz.f101 xj_ := ai_
def c53 : LC :=
 .seq (.ops [.ki 4 0]) (.seq (.seq (.ops [.ki 5 0]) (.block 0 (.loop (.seq (.seq (.ops [.m 6 5, .m 7 0, .ll 8 7, .bb 9 .lss false 6 8]) (.cond (.tmp 9) .skip (.exit 0))) (.seq (.block 1 (.seq (.ops [.m 12 0, .m 13 5, .m
 14 1, .c1 15 54 14, .ia 16 3 12 13, .fa 17 0 16, .st 1 17 15]) (.seq (.ops [.m 18 1, .bk 19 .add false 18 1, .m 1 19]) (.seq (.ops [.m 20 0, .m 21 5, .ia 22 3 20 21, .fa 23 1 22, .ln 24 23, .m 25 1, .c2 26 55 24 25, .m 1
 26]) (.seq (.ops [.m 27 0, .m 28 5, .m 29 1, .c1 30 54 29, .ia 31 3 27 28, .fa 32 2 31, .st 1 32 30]) (.ops [.m 33 1, .bk 34 .add false 33 1, .m 1 34])))))) (.ops [.m 10 5, .bk 11 .add false 10 1, .m 5 11])))))) (.seq
 (.ops [.m 35 1, .m 4 35]) .ret))
def uX_ : LF := ⟨2, 36, c53, [.tmp 4]⟩
theorem ww_ : at_ Tryz.prog Tryz.f53 uX_ := ai_
def c56 : LC :=
 .seq (.ops [.ki 4 0]) (.seq (.seq (.ops [.ki 5 0]) (.block 0 (.loop (.seq (.seq (.ops [.m 6 5, .m 7 0, .ll 8 7, .bb 9 .lss false 6 8]) (.cond (.tmp 9) .skip (.exit 0))) (.seq (.block 1 (.seq (.seq (.dops [.m 12 0, .m 13
 5, .ia 14 3 12 13, .fa 15 0 14, .ln 16 15, .m 17 1, .c1 18 54 17, .bb 19 .neq false 16 18]) (.cond (.tmp 19) (.seq (.ops [.s 4 (.mov (.const (.int .i64 (-1))))]) .ret) .skip)) (.seq (.ops [.m 20 1, .bk 21 .add false 20
 1, .m 1 21]) (.seq (.ops [.m 22 0, .m 23 5, .ia 24 3 22 23, .fa 25 1 24, .ln 26 25, .m 27 1, .c2 28 101 26 27, .m 1 28]) (.seq (.seq (.ops [.m 29 1, .bk 30 .lss false 29 0]) (.cond (.tmp 30) (.seq (.ops [.s 4 (.mov
 (.const (.int .i64 (-1))))]) .ret) .skip)) (.seq (.seq (.dops [.m 31 0, .m 32 5, .ia 33 3 31 32, .fa 34 2 33, .ln 35 34, .m 36 1, .c1 37 54 36, .bb 38 .neq false 35 37]) (.cond (.tmp 38) (.seq (.ops [.s 4 (.mov (.const
 (.int .i64 (-1))))]) .ret) .skip)) (.ops [.m 39 1, .bk 40 .add false 39 1, .m 1 40]))))))) (.ops [.m 10 5, .bk 11 .add false 10 1, .m 5 11])))))) (.seq (.ops [.m 41 1, .m 4 41]) .ret))
def zP_ : LF := ⟨2, 42, c56, [.tmp 4]⟩
theorem En_ : at_ Tryz.prog Tryz.f56 zP_ := ai_
def c16 : LC :=
 .seq (.ops [.s 2 (.box 30 (.tmp 0)), .ki 4 0]) (.seq (.ops [.fa 5 0 2, .ln 6 5, .m 7 1, .c2 8 53 6 7, .m 1 8]) (.seq (.ops [.m 9 1, .m 4 9]) .ret))
def B3_ : LF := ⟨2, 10, c16, [.tmp 4]⟩
theorem DQ_ : at_ Tryz.prog Tryz.f16 B3_ := ai_
def c18 : LC :=
 .seq (.ops [.s 2 (.box 30 (.tmp 0)), .ki 4 0]) (.seq (.ops [.fa 5 0 2, .ln 6 5, .m 7 1, .c2 8 56 6 7, .m 1 8]) (.seq (.seq (.ops [.m 9 1, .bk 10 .lss false 9 0]) (.cond (.tmp 10) (.seq (.ops [.s 4 (.mov (.const (.int
 .i64 (-1))))]) .ret) .skip)) (.seq (.ops [.m 11 1, .m 4 11]) .ret)))
def Aw_ : LF := ⟨2, 12, c18, [.tmp 4]⟩
theorem Eb_ : at_ Tryz.prog Tryz.f18 Aw_ := ai_
def c17 : LC :=
 .seq (.ops [.ki 4 0]) (.seq (.seq (.ops [.ki 5 0]) (.block 0 (.loop (.seq (.seq (.ops [.m 6 5, .m 7 0, .ll 8 7, .bb 9 .lss false 6 8]) (.cond (.tmp 9) .skip (.exit 0))) (.seq (.block 1 (.seq (.ops [.m 12 0, .m 13 5, .m
 14 1, .ia 15 5 12 13, .fa 16 0 15, .st 1 16 14]) (.seq (.ops [.m 17 1, .bk 18 .add false 17 1, .m 1 18]) (.seq (.ops [.m 19 0, .m 20 5, .m 21 1, .c1 22 54 21, .ia 23 5 19 20, .fa 24 1 23, .st 1 24 22]) (.seq (.ops [.m 25
 1, .bk 26 .add false 25 1, .m 1 26]) (.seq (.ops [.m 27 0, .m 28 5, .ia 29 5 27 28, .fa 30 2 29, .ln 31 30, .m 32 1, .c2 33 55 31 32, .m 1 33]) (.seq (.ops [.m 34 0, .m 35 5, .m 36 1, .c1 37 54 36, .ia 38 5 34 35, .fa 39
 3 38, .st 1 39 37]) (.seq (.ops [.m 40 1, .bk 41 .add false 40 1, .m 1 41]) (.seq (.ops [.m 42 0, .m 43 5, .m 44 1, .ia 45 5 42 43, .fa 46 4 45, .st 1 46 44]) (.ops [.m 47 1, .bk 48 .add false 47 1, .m 1 48]))))))))))
 (.ops [.m 10 5, .bk 11 .add false 10 1, .m 5 11])))))) (.seq (.ops [.m 49 1, .m 4 49]) .ret))
def vz_ : LF := ⟨2, 50, c17, [.tmp 4]⟩
theorem wX_ : at_ Tryz.prog Tryz.f17 vz_ := ai_
def c24 : LC :=
 .seq (.ops [.ki 4 0]) (.seq (.seq (.ops [.ki 5 0]) (.block 0 (.loop (.seq (.seq (.ops [.m 6 5, .m 7 0, .ll 8 7, .bb 9 .lss false 6 8]) (.cond (.tmp 9) .skip (.exit 0))) (.seq (.block 1 (.seq (.ops [.m 12 0, .m 13 5, .m
 14 1, .ia 15 2 12 13, .fa 16 0 15, .st 1 16 14]) (.seq (.ops [.m 17 1, .bk 18 .add false 17 1, .m 1 18]) (.ops [.m 19 0, .m 20 5, .ia 21 2 19 20, .fa 22 1 21, .ln 23 22, .m 24 1, .c2 25 17 23 24, .m 1 25])))) (.ops [.m
 10 5, .bk 11 .add false 10 1, .m 5 11])))))) (.seq (.ops [.m 26 1, .m 4 26]) .ret))
def uB_ : LF := ⟨2, 27, c24, [.tmp 4]⟩
theorem xK_ : at_ Tryz.prog Tryz.f24 uB_ := ai_
theorem lH_ (xs : List ByteArray) : ∀ e ∈ xs.map am_, aY_ [.str] e := by
 intro e he
 obtain ⟨x, _, q⟩ := mem_map.1 he; subst q
 simp only [aY_, bp_, am_]
 exact ⟨_, _, rfl, ⟨_, rfl⟩, rfl⟩
theorem kt_ (xs : List ByteArray) : bb_ (a2_ [.str]) (xs.map am_) ≤ 1 * (ao_ ByteArray.size) xs := by
 refine g9_ (fun x => ?_) xs
 simp only [a2_, a3_]
 omega
theorem iq_ (xs : List ByteArray) (hb : (ao_ ByteArray.size) xs ≤ 1048576) : aP_ Tryz.prog 87 [.list 0 1 (xs.map am_)] (.list 0 1 (xs.map am_)) (fun a => ∃ l, a = .own l xs.length) := by
 have hx := Nat.le_trans (bO_ (f := ByteArray.size) (xs := xs)) hb
 refine da_ mixed Tryz.func87 xg_ rfl (fun h0 => ?_)
 simp (disch := omega) only [vD_, c87, go_sem, reduceCtorEq, ↓reduceIte]
 refine ⟨by omega, by omega, ?_⟩
 refine aL_ (fun n t h => ∃ k : Nat, t 0 = .list 0 1 (xs.map am_) ∧ t 3 = .own h0.length xs.length ∧ t 4 = .val (.int .i64 k) ∧ h = h0 ++ [⟨9, 1, bC_ (xs.map am_) [.val (.string (txt []))] k⟩] ∧ n = xs.length - k ∧ k ≤ xs.length) xs.length ?_ ?_
 ·exact ⟨0, rfl, rfl, rfl, by rw [fG_]; simp, rfl, Nat.zero_le _⟩
 ·rintro J hJ n t h ⟨k, t0, t3, t4, rfl, rfl, hk⟩
  have fl : (bC_ (xs.map am_) [.val (.string (txt []))] k).length = xs.length := by rw [eN_ _ _ (by simpa using hk)]; simp
  by_cases hlt : k < xs.length
  ·have fg : (bC_ (xs.map am_) [.val (.string (txt []))] k)[k]? = some [.val (.string (txt []))] := gt_ _ _ (by simpa using hlt)
   have fs := fL_ (xs.map am_) [.val (.string (txt []))] (am_ xs[k]) (k := k) (by rw [getElem?_map, getElem?_eq_getElem hlt]; rfl)
   simp (disch := omega) only [t0, t3, t4, hlt, fl, fg, ag_, go_sem, Nat.reduceEqDiff, reduceCtorEq, ↓reduceIte, ar_]
   try simp (disch := omega) only [fs, go_sem]
   exact ⟨xs.length - (k + 1), by omega, hJ _ _ _ ⟨k + 1, by simp [upd, t0], by simp [upd, t3], by simp [upd], by simp [], rfl, by omega⟩⟩
  ·simp (disch := omega) only [t0, t3, t4, hlt, fl, ag_, go_sem, Nat.reduceEqDiff, reduceCtorEq, ↓reduceIte]
   have ff : bC_ (xs.map am_) [.val (.string (txt []))] k = xs.map am_ := gE_ _ _ (by simp; omega)
   rw [ff]
   refine ⟨_, rfl, (aA_.mkown (lo := h0.length + 1) (hi := h0.length + 1) (bw_.ofVals _ _ _ _ ?_) (by rw [cy_]; rfl) (by simp) (Nat.le_refl _) (Nat.lt_succ_self _) (Nat.le_refl _)).fresh, _, rfl⟩
   intro e he c hc
   obtain ⟨x, _, q⟩ := mem_map.1 he; subst q
   simp only [am_, mem_singleton] at hc
   exact ⟨_, hc⟩
theorem i6_ : gk_ Tryz.prog 55 aZ_ [.str] := by
 refine gk_.of ?_ ?_
 ·intro H k K hK
  refine bd_ mixed Tryz.func55 xV_ (ca_ rfl ?_)
  simp (disch := omega) only [uR_, c55, go_sem]
  refine aL_ (fun n t h => t 0 = .val (.slice none 0 0) ∧ t 1 = .val (.int .i64 k) ∧ t 5 = .val (.int .i64 0) ∧ h = H) 0 ⟨rfl, rfl, rfl, rfl⟩ ?_
  rintro J hJ n t h ⟨t0, t1, t5, rfl⟩
  simp (disch := omega) only [t0, t1, t5, go_sem, Nat.reduceEqDiff, reduceCtorEq, Int.reduceLT, ↓reduceIte]
  exact hK
 ·intro l cnt lo hi E rs0 f H0 k K hT hl nd hrl hlo hhi hsh hk hb hK
  refine bd_ mixed Tryz.func55 xV_ (ca_ rfl ?_)
  obtain ⟨seg, hseg⟩ : ∃ seg, seg = (rs0.take hi).drop lo := ⟨_, rfl⟩
  rw [← hseg] at hsh hb hK
  have hsl : hi - lo = seg.length := by rw [hseg, length_drop, length_take]; omega
  have hsn : seg.length ≤ bb_ (a2_ [.str]) seg := gO_ (c := a2_ [.str]) (fun e he => by have q := hsh e he; unfold aY_ at q; obtain ⟨c, r, rfl, _, _⟩ := q; simp only [a2_, a3_]; omega)
  simp (disch := omega) only [uR_, c55, go_sem]
  refine aL_ (fun n t h => ∃ (i : Nat) (rs : List (List AV)), t 0 = .sub l cnt lo hi ∧ t 1 = .val (.int .i64 (aR_ (be_ aZ_ [.str]) (seg.take i) k).2) ∧ t 5 = .val (.int .i64 i) ∧ MT H0 l E 1 cnt f rs h ∧ n = seg.length - i ∧ i ≤ seg.length ∧ rs.length = cnt ∧ (rs.take hi).drop lo = (aR_ (be_ aZ_ [.str]) (seg.take i) k).1 ++ seg.drop i) seg.length ⟨0, rs0, rfl, rfl, rfl, hT, rfl, Nat.zero_le _, hrl, hseg.symm⟩ ?_
  rintro J hJ n t h ⟨i, rs, t0, t1, t5, hM, rfl, hi1, hrl1, hS⟩
  by_cases hlt : i < seg.length
  ·have hA : (aR_ (be_ aZ_ [.str]) (seg.take i) k).1.length = i := by rw [gr_, length_take]; omega
   have hst := jT_ (g := (be_ aZ_ [.str])) (k := k) hlt
   have hcn := ia_ (c := a2_ [.str]) hlt
   have hzz : (aR_ (be_ aZ_ [.str]) (seg.take i) k).2 = k + bb_ (a2_ [.str]) (seg.take i) := dg_ (fun x _ k => dl_ [.str] x k) k
   have hj4 : (lo : Int) + (i : Int) < (hi : Int) := by omega
   have hj2 := (kr_ hS hA hlt).2.1
   have hsd := hsh _ (getElem_mem hlt)
   have hss : ∀ d, ((rs.set (lo + i) d).take hi).drop lo = ((aR_ (be_ aZ_ [.str]) (seg.take i) k).1 ++ [d]) ++ seg.drop (i + 1) := fun d => j2_ hS hA hlt
   clear hS hA
   generalize seg[i] = d at hst hcn hj2 hsd
   obtain ⟨z, hz⟩ : ∃ z, z = (aR_ (be_ aZ_ [.str]) (seg.take i) k).2 := ⟨_, rfl⟩
   rw [← hz] at hst hzz t1
   have hz0 : 0 ≤ z := by omega
   unfold aY_ at hsd
   obtain ⟨_, d0, hd0, hc0, hsd⟩ := hsd
   unfold bp_ at hc0
   obtain ⟨s0, rfl⟩ := hc0
   unfold aY_ at hsd
   subst hsd
   subst hd0
   simp only [a2_, a3_, Nat.add_zero] at hcn
   obtain ⟨m, es, e, f2, r1, r2, r3, ho_0, nd2, hl2, hfin⟩ := hM.elem hl nd hj2
   obtain ⟨q0, rfl, ho_1⟩ := ho_0.inv_val
   obtain ⟨rfl, rfl⟩ := ho_1.inv_nil
   have u1 : ∀ r, (h.set l r)[l]? = some r := fun r => getElem?_set_self (List.getElem?_eq_some_iff.1 r1).1
   have u2 : ∀ x, (es.set (lo + i) x)[lo + i]? = some x := fun x => getElem?_set_self (List.getElem?_eq_some_iff.1 r3).1
   simp (disch := omega) only [t0, t1, t5, hlt, hsl, hlo, r1, r2, go_sem, Nat.reduceEqDiff, reduceCtorEq, ↓reduceIte]
   refine aa_.call (dz_ (z) (by omega) (by omega) _) ?_
   simp (disch := omega) only [t1, t5, hj4, r1, r2, r3, go_sem, Nat.reduceEqDiff, ↓reduceIte]
   refine ⟨seg.length - (i + 1), by omega, hJ _ _ _ ⟨i + 1, rs.set (lo + i) _, by simp [upd, t0], by rw [hst]; simp [upd, be_, bh_], by simp [upd], hfin _ _ _ ?_ (by first | exact u1 _ | exact u1 _) ?_ ?_, rfl, by omega, by simpa using hrl1, by rw [hst]; exact hss _⟩⟩
   ·simp only [ls_]
   ·intro x hx
    simp only [mem_cons, not_or] at hx
    try rw [getElem?_set_ne (Ne.symm hx.1)]
   ·simp only [be_, bh_]
    exact ⟨_, (aK_.mk_val _ (aK_.mk_nil (Own _ (0 + 1))))⟩
  ·obtain ⟨m, es, r1, r2, _⟩ := hM.out
   have e1 : seg.take i = seg := take_of_length_le (by omega)
   have e2 : seg.drop i = [] := drop_eq_nil_of_le (by omega)
   rw [e1] at t1 hS
   rw [e2, append_nil] at hS
   simp (disch := omega) only [t0, t1, t5, hlt, hsl, hlo, r1, r2, go_sem, Nat.reduceEqDiff, reduceCtorEq, ↓reduceIte]
   exact hK _ rs hM hS
theorem ny_ (es : List (List AV)) (k : Int) (hsh : ∀ e ∈ es, aY_ [.str] e) (hk : 0 ≤ k) (hb : k + bb_ (a2_ [.str]) es ≤ 4611686018427387904) (h : List Row) : aa_ Tryz.prog 101 [.list 0 1 es, .val (.int .i64 k)] h (.val (.int .i64 (ck_ (co_ aZ_ [.str]) es k))) := by
 refine aj_ mixed Tryz.func101 CY_ rfl rfl ?_ h
 have hsn : es.length ≤ bb_ (a2_ [.str]) es := gO_ (c := a2_ [.str]) (fun e he => by have q := hsh e he; unfold aY_ at q; obtain ⟨c, r, rfl, _, _⟩ := q; simp only [a2_, a3_]; omega)
 simp (disch := omega) only [xj_, z6_, go_sem, Int.reduceNeg]
 refine aL_ (fun n t h => ∃ (i : Nat) (z : Int), t 0 = .list 0 1 es ∧ t 1 = .val (.int .i64 z) ∧ t 5 = .val (.int .i64 i) ∧ n = es.length - i ∧ i ≤ es.length ∧ 0 ≤ z ∧ z + bb_ (a2_ [.str]) (es.drop i) ≤ 4611686018427387904 ∧ ck_ (co_ aZ_ [.str]) es k = ck_ (co_ aZ_ [.str]) (es.drop i) z) es.length ⟨0, k, rfl, rfl, rfl, rfl, Nat.zero_le _, hk, hb, rfl⟩ ?_
 rintro J hJ n t h ⟨i, z, t0, t1, t5, rfl, hi, hz0, hzb, hS⟩
 by_cases hlt : i < es.length
 ·rw [ql_ hlt] at hS
  rw [tl_ hlt] at hzb
  have hsd := hsh _ (getElem_mem hlt)
  obtain ⟨d, hd⟩ : ∃ d, es[i] = d := ⟨_, rfl⟩
  rw [hd] at hS hzb hsd
  have hg : es[i]? = some d := by rw [getElem?_eq_getElem hlt, hd]
  unfold aY_ at hsd
  obtain ⟨_, d0, hd0, hc0, hsd⟩ := hsd
  unfold bp_ at hc0
  obtain ⟨s0, rfl⟩ := hc0
  unfold aY_ at hsd
  subst hsd
  subst hd0
  simp only [a2_, a3_, Nat.add_zero] at hzb
  simp (disch := omega) only [t0, t1, t5, hlt, hg, go_sem, Nat.reduceEqDiff, reduceCtorEq, Int.reduceNeg, ↓reduceIte]
  refine aa_.q (dz_ (z) (by omega) (by omega) _) ?_
  by_cases q0 : s0 = aZ_ (z)
  case neg =>
   simp (disch := omega) only [q0, go_sem, Int.reduceNeg, ↓reduceIte]
   exact aG_ (by rw [hS]; exact (he_ (by simp (disch := first | assumption | omega) only [kQ_])).symm)
  simp (disch := omega) only [t1, t5, q0, go_sem, Nat.reduceEqDiff, Int.reduceNeg, ↓reduceIte]
  exact ⟨es.length - (i + 1), by omega, hJ _ _ _ ⟨i + 1, z + 1, by simp [upd, t0], by simp [upd], by simp [upd], rfl, by omega, by omega, by omega, by rw [hS]; exact k5_ (by simp (disch := first | assumption | omega) only [jq_, qi_]) (by omega)⟩⟩
 ·simp (disch := omega) only [t0, t1, t5, hlt, go_sem, Nat.reduceEqDiff, reduceCtorEq, Int.reduceNeg, ↓reduceIte]
  exact aG_ (by rw [hS, drop_eq_nil_of_le (by omega)]; rfl)
theorem v1_ (x : ac_) : aY_ [.str, .list [.str], .str] (ac_.cells x) := by
 simp only [ac_.cells, aY_, bp_]
 exact ⟨_, _, rfl, ⟨_, rfl⟩, ⟨_, _, rfl, ⟨_, rfl, lH_ _⟩, ⟨_, _, rfl, ⟨_, rfl⟩, rfl⟩⟩⟩
theorem pq_ (x : ac_) (hb : ac_.sz x ≤ 1048576) : aP_ Tryz.prog 86 [.agg (ac_.cells x)] (.agg (ac_.cells x)) (fun a => ∃ l_Subs, a = .agg [.val (.string x.Name), .own l_Subs (x.Subs).length, .val (.string x.Value)]) := by
 have hsz : ac_.sz x = ByteArray.size x.Name + (ao_ ByteArray.size) x.Subs + ByteArray.size x.Value := rfl
 refine da_ mixed Tryz.func86 xA_ rfl (fun h0 => ?_)
 simp (disch := omega) only [up_, c86, ac_.cells, go_sem, Nat.reduceEqDiff, Nat.reduceAdd, Nat.reduceLeDiff, ↓reduceIte]
 refine iq_ x.Subs (by omega) _ _ (fun av1 hn1 hf1 hq1 => ?_)
 obtain ⟨l_Subs, rfl⟩ := hq1
 simp (disch := omega) only [go_sem, Nat.reduceEqDiff, Nat.reduceAdd, Nat.reduceLeDiff, ↓reduceIte, cD_]
 exact ⟨_, rfl, im_ (ap_.val _ (ap_.cons ((hf1.b.keep fun l q1 q2 => sc_ (t := []) (by simp) q1 q2).widen (by first | omega | (simp; done) | (simp; omega)) (Nat.le_refl _)) (ap_.val _ (ap_.nil _ _ _)) ⟨(by first | omega | (simp; done) | (simp; omega)), (by first | omega | (simp; done) | (simp; omega))⟩)), l_Subs, rfl⟩
theorem t7_ (xs : List ac_) : ∀ e ∈ xs.map ac_.cells, aY_ [.str, .list [.str], .str] e := by
 intro e he
 obtain ⟨x, _, q⟩ := mem_map.1 he; subst q
 exact v1_ x
theorem s8_ (xs : List ac_) : bb_ (a2_ [.str, .list [.str], .str]) (xs.map ac_.cells) ≤ 3 * (ao_ ac_.sz) xs := by
 refine g9_ (fun x => ?_) xs
 have c0 := kt_ (x.Subs)
 have hsz0 : ∀ y : ac_, ac_.sz y = ByteArray.size y.Name + (ao_ ByteArray.size) y.Subs + ByteArray.size y.Value := fun _ => rfl
 simp only [hsz0] at *
 simp only [ac_.cells, a2_, a3_]
 omega
theorem oG_ (xs : List ac_) (hb : (ao_ ac_.sz) xs ≤ 1048576) : aP_ Tryz.prog 45 [.list 0 3 (xs.map ac_.cells)] (.list 0 3 (xs.map ac_.cells)) (fun a => ∃ l, a = .own l xs.length) := by
 have hx := Nat.le_trans (bO_ (f := ac_.sz) (xs := xs)) hb
 refine da_ mixed Tryz.func45 wl_ rfl (fun h0 => ?_)
 simp (disch := omega) only [u3_, c45, go_sem, reduceCtorEq, ↓reduceIte]
 refine ⟨by omega, by omega, ?_⟩
 refine aL_ (fun n t h => ∃ (k : Nat) (done : List (List AV)) (rest : List Row), t 0 = .list 0 3 (xs.map ac_.cells) ∧ t 3 = .own h0.length xs.length ∧ t 4 = .val (.int .i64 k) ∧ h = h0 ++ ⟨112, 3, done ++ List.replicate (xs.length - k) ([.val (.string (txt [])), .val (.slice none 0 0), .val (.string (txt []))] : List AV)⟩ :: rest ∧ n = xs.length - k ∧ k ≤ xs.length ∧ done.length = k ∧ bw_ (h0.length + 1) h.length h done ((xs.take k).map ac_.cells)) xs.length ?_ ?_
 ·exact ⟨0, [], [], rfl, rfl, rfl, by simp, rfl, Nat.zero_le _, rfl, .nil _ _ _⟩
 ·rintro J hJ n t h ⟨k, done, rest, t0, t3, t4, rfl, rfl, hk, hd, hF⟩
  have fl : (done ++ List.replicate (xs.length - k) ([.val (.string (txt [])), .val (.slice none 0 0), .val (.string (txt []))] : List AV)).length = xs.length := by simp; omega
  by_cases hlt : k < xs.length
  ·have e1 : xs.length - k = (xs.length - (k + 1)) + 1 := by omega
   have fg : (done ++ List.replicate (xs.length - k) ([.val (.string (txt [])), .val (.slice none 0 0), .val (.string (txt []))] : List AV))[k]? = some [.val (.string (txt [])), .val (.slice none 0 0), .val (.string (txt []))] := by rw [getElem?_append_right (by omega), hd, Nat.sub_self, e1]; rfl
   have fs : ∀ c : List AV, (done ++ List.replicate (xs.length - k) ([.val (.string (txt [])), .val (.slice none 0 0), .val (.string (txt []))] : List AV)).set k c = (done ++ [c]) ++ List.replicate (xs.length - (k + 1)) ([.val (.string (txt [])), .val (.slice none 0 0), .val (.string (txt []))] : List AV) := by
    intro c; rw [set_append_right _ _ (by omega), hd, Nat.sub_self, e1, replicate_succ, set_cons_zero, append_assoc]; rfl
   simp (disch := omega) only [t0, t3, t4, hlt, ac_.cells, ag_, go_sem, Nat.reduceEqDiff, Nat.reduceAdd, reduceCtorEq, ↓reduceIte]
   refine pq_ xs[k] (by have := bD_ (f := ac_.sz) (getElem_mem hlt); omega) _ _ (fun av hn hf hq => ?_)
   obtain ⟨l_Subs, rfl⟩ := hq
   simp (disch := omega) only [t4, hlt, fl, fg, fs, go_sem, Nat.reduceEqDiff, Nat.reduceAdd, ↓reduceIte, ar_]
   refine ⟨xs.length - (k + 1), by omega, hJ _ _ _ ⟨k + 1, done ++ [[.val (.string xs[k].Name), .own l_Subs (xs[k].Subs).length, .val (.string xs[k].Value)]], rest ++ hn, by simp [upd, t0], by simp [upd, t3], by simp [upd], by simp, rfl, by omega, by simp [hd], ?_⟩⟩
   rw [take_succ_eq_append_getElem hlt, map_append]
   have hz := iW_ (r' := ⟨112, 3, (done ++ [[.val (.string xs[k].Name), .own l_Subs (xs[k].Subs).length, .val (.string xs[k].Value)]]) ++ List.replicate (xs.length - (k + 1)) ([.val (.string (txt [])), .val (.slice none 0 0), .val (.string (txt []))] : List AV)⟩) hF hf
   first | exact hz | simpa using hz
  ·simp (disch := omega) only [t0, t3, t4, hlt, ag_, go_sem, Nat.reduceEqDiff, reduceCtorEq, ↓reduceIte]
   have e1 : xs.length - k = 0 := by omega
   rw [e1, replicate_zero, append_nil, take_of_length_le (by omega)] at hF
   rw [e1, replicate_zero, append_nil]
   exact ⟨_, rfl, jx_ hF (by omega), _, rfl⟩
theorem o9_ : gk_ Tryz.prog 53 aZ_ [.str, .list [.str], .str] := by
 refine gk_.of ?_ ?_
 ·intro H k K hK
  refine bd_ mixed Tryz.func53 ww_ (ca_ rfl ?_)
  simp (disch := omega) only [uX_, c53, go_sem]
  refine aL_ (fun n t h => t 0 = .val (.slice none 0 0) ∧ t 1 = .val (.int .i64 k) ∧ t 5 = .val (.int .i64 0) ∧ h = H) 0 ⟨rfl, rfl, rfl, rfl⟩ ?_
  rintro J hJ n t h ⟨t0, t1, t5, rfl⟩
  simp (disch := omega) only [t0, t1, t5, go_sem, Nat.reduceEqDiff, reduceCtorEq, Int.reduceLT, ↓reduceIte]
  exact hK
 ·intro l cnt lo hi E rs0 f H0 k K hT hl nd hrl hlo hhi hsh hk hb hK
  refine bd_ mixed Tryz.func53 ww_ (ca_ rfl ?_)
  obtain ⟨seg, hseg⟩ : ∃ seg, seg = (rs0.take hi).drop lo := ⟨_, rfl⟩
  rw [← hseg] at hsh hb hK
  have hsl : hi - lo = seg.length := by rw [hseg, length_drop, length_take]; omega
  have hsn : seg.length ≤ bb_ (a2_ [.str, .list [.str], .str]) seg := gO_ (c := a2_ [.str, .list [.str], .str]) (fun e he => by have q := hsh e he; unfold aY_ at q; obtain ⟨c, r, rfl, _, _⟩ := q; simp only [a2_, a3_]; omega)
  simp (disch := omega) only [uX_, c53, go_sem]
  refine aL_ (fun n t h => ∃ (i : Nat) (rs : List (List AV)), t 0 = .sub l cnt lo hi ∧ t 1 = .val (.int .i64 (aR_ (be_ aZ_ [.str, .list [.str], .str]) (seg.take i) k).2) ∧ t 5 = .val (.int .i64 i) ∧ MT H0 l E 3 cnt f rs h ∧ n = seg.length - i ∧ i ≤ seg.length ∧ rs.length = cnt ∧ (rs.take hi).drop lo = (aR_ (be_ aZ_ [.str, .list [.str], .str]) (seg.take i) k).1 ++ seg.drop i) seg.length ⟨0, rs0, rfl, rfl, rfl, hT, rfl, Nat.zero_le _, hrl, hseg.symm⟩ ?_
  rintro J hJ n t h ⟨i, rs, t0, t1, t5, hM, rfl, hi1, hrl1, hS⟩
  by_cases hlt : i < seg.length
  ·have hA : (aR_ (be_ aZ_ [.str, .list [.str], .str]) (seg.take i) k).1.length = i := by rw [gr_, length_take]; omega
   have hst := jT_ (g := (be_ aZ_ [.str, .list [.str], .str])) (k := k) hlt
   have hcn := ia_ (c := a2_ [.str, .list [.str], .str]) hlt
   have hzz : (aR_ (be_ aZ_ [.str, .list [.str], .str]) (seg.take i) k).2 = k + bb_ (a2_ [.str, .list [.str], .str]) (seg.take i) := dg_ (fun x _ k => dl_ [.str, .list [.str], .str] x k) k
   have hj4 : (lo : Int) + (i : Int) < (hi : Int) := by omega
   have hj2 := (kr_ hS hA hlt).2.1
   have hsd := hsh _ (getElem_mem hlt)
   have hss : ∀ d, ((rs.set (lo + i) d).take hi).drop lo = ((aR_ (be_ aZ_ [.str, .list [.str], .str]) (seg.take i) k).1 ++ [d]) ++ seg.drop (i + 1) := fun d => j2_ hS hA hlt
   clear hS hA
   generalize seg[i] = d at hst hcn hj2 hsd
   obtain ⟨z, hz⟩ : ∃ z, z = (aR_ (be_ aZ_ [.str, .list [.str], .str]) (seg.take i) k).2 := ⟨_, rfl⟩
   rw [← hz] at hst hzz t1
   have hz0 : 0 ≤ z := by omega
   unfold aY_ at hsd
   obtain ⟨_, d0, hd0, hc0, hsd⟩ := hsd
   unfold bp_ at hc0
   obtain ⟨s0, rfl⟩ := hc0
   unfold aY_ at hsd
   obtain ⟨_, d1, hd1, hc1, hsd⟩ := hsd
   unfold bp_ at hc1
   obtain ⟨e1, rfl, hc1⟩ := hc1
   unfold aY_ at hsd
   obtain ⟨_, d2, hd2, hc2, hsd⟩ := hsd
   unfold bp_ at hc2
   obtain ⟨s2, rfl⟩ := hc2
   unfold aY_ at hsd
   subst hsd
   subst hd2
   subst hd1
   subst hd0
   simp only [a2_, a3_, Nat.add_zero] at hcn
   obtain ⟨m, es, e, f2, r1, r2, r3, ho_0, nd2, hl2, hfin⟩ := hM.elem hl nd hj2
   obtain ⟨q0, rfl, ho_1⟩ := ho_0.inv_val
   obtain ⟨c1, q1, g1, w1, rfl, rfl, hw1, ho_2⟩ := ho_1.inv_cons
   obtain ⟨q2, rfl, ho_3⟩ := ho_2.inv_val
   obtain ⟨rfl, rfl⟩ := ho_3.inv_nil
   simp only [append_nil] at nd2 hl2
   have nd_1 : g1.Nodup := by first | exact nd2 | exact nd2.1 | exact nd2.2.1 | (simp_all; done)
   have hl_1 : l ∉ g1 := fun q => hl2 (by simp [q])
   have u1 : ∀ r, (h.set l r)[l]? = some r := fun r => getElem?_set_self (List.getElem?_eq_some_iff.1 r1).1
   have u2 : ∀ x, (es.set (lo + i) x)[lo + i]? = some x := fun x => getElem?_set_self (List.getElem?_eq_some_iff.1 r3).1
   simp (disch := omega) only [t0, t1, t5, hlt, hsl, hlo, r1, r2, go_sem, Nat.reduceEqDiff, reduceCtorEq, ↓reduceIte]
   refine aa_.call (dz_ (z) (by omega) (by omega) _) ?_
   simp (disch := omega) only [t0, t1, t5, hj4, r1, r2, r3, u1, u2, ls_, go_sem, Nat.reduceEqDiff, Nat.reduceAdd, Nat.reduceLeDiff, reduceCtorEq, ↓reduceIte]
   refine i6_ _ c1 e1 g1 _ (z + 1) _ (hw1.keep fun x hx => ?_) nd_1 hc1 (by omega) (by omega) (fun H1 m1 x1 y1 v1 => ?_)
   ·first | rfl | exact getElem?_set_ne (by rintro rfl; exact hl_1 hx)
   have hq1 : (aR_ (be_ aZ_ [.str]) e1 (z + 1)).2 = z + 1 + (bb_ (a2_ [.str]) e1 : Nat) := dg_ (fun x _ k => dl_ _ x k) _
   have p1 := (y1 l hl_1).trans (by first | exact u1 _ | exact r1)
   have un1 : ∀ r, (H1.set l r)[l]? = some r := fun r => getElem?_set_self (List.getElem?_eq_some_iff.1 p1).1
   simp (disch := omega) only [t0, t5, go_sem, Nat.reduceEqDiff, reduceCtorEq, ↓reduceIte]
   refine aa_.call (dz_ ((aR_ (be_ aZ_ [.str]) e1 (z + 1)).2) (by omega) (by omega) _) ?_
   simp (disch := omega) only [t5, hj4, r2, u2, ls_, set_set, p1, go_sem, Nat.reduceEqDiff, Nat.reduceAdd, ↓reduceIte]
   refine ⟨seg.length - (i + 1), by omega, hJ _ _ _ ⟨i + 1, rs.set (lo + i) _, by simp [upd, t0], by rw [hst]; simp [upd, be_, bh_], by simp [upd], hfin _ _ _ ?_ (by first | exact un1 _ | exact p1) ?_ ?_, rfl, by omega, by simpa using hrl1, by rw [hst]; exact hss _⟩⟩
   ·simp only [ls_, x1]
   ·intro x hx
    simp only [mem_cons, not_or, append_nil] at hx
    try rw [getElem?_set_ne (Ne.symm hx.1)]
    rw [y1 x (by intro hq; first | (simp_all; done) | exact nd.2.2 _ hq _ hx rfl | exact nd.2.2 _ hx _ hq rfl | grind)]
    try rw [getElem?_set_ne (Ne.symm hx.1)]
   ·simp only [be_, bh_]
    exact ⟨_, (aK_.mk_val _ (aK_.mk_list (v1.keep fun x hx => by first | rfl | ((try rw [getElem?_set_ne (by rintro rfl; exact hl_1 hx)]))) (aK_.mk_val _ (aK_.mk_nil (Own _ (0 + 1))))))⟩
  ·obtain ⟨m, es, r1, r2, _⟩ := hM.out
   have e1 : seg.take i = seg := take_of_length_le (by omega)
   have e2 : seg.drop i = [] := drop_eq_nil_of_le (by omega)
   rw [e1] at t1 hS
   rw [e2, append_nil] at hS
   simp (disch := omega) only [t0, t1, t5, hlt, hsl, hlo, r1, r2, go_sem, Nat.reduceEqDiff, reduceCtorEq, ↓reduceIte]
   exact hK _ rs hM hS
theorem qg_ (es : List (List AV)) (k : Int) (hsh : ∀ e ∈ es, aY_ [.str, .list [.str], .str] e) (hk : 0 ≤ k) (hb : k + bb_ (a2_ [.str, .list [.str], .str]) es ≤ 4611686018427387904) (h : List Row) : aa_ Tryz.prog 56 [.list 0 3 es, .val (.int .i64 k)] h (.val (.int .i64 (ck_ (co_ aZ_ [.str, .list [.str], .str]) es k))) := by
 refine aj_ mixed Tryz.func56 En_ rfl rfl ?_ h
 have hsn : es.length ≤ bb_ (a2_ [.str, .list [.str], .str]) es := gO_ (c := a2_ [.str, .list [.str], .str]) (fun e he => by have q := hsh e he; unfold aY_ at q; obtain ⟨c, r, rfl, _, _⟩ := q; simp only [a2_, a3_]; omega)
 simp (disch := omega) only [zP_, c56, go_sem, Int.reduceNeg]
 refine aL_ (fun n t h => ∃ (i : Nat) (z : Int), t 0 = .list 0 3 es ∧ t 1 = .val (.int .i64 z) ∧ t 5 = .val (.int .i64 i) ∧ n = es.length - i ∧ i ≤ es.length ∧ 0 ≤ z ∧ z + bb_ (a2_ [.str, .list [.str], .str]) (es.drop i) ≤ 4611686018427387904 ∧ ck_ (co_ aZ_ [.str, .list [.str], .str]) es k = ck_ (co_ aZ_ [.str, .list [.str], .str]) (es.drop i) z) es.length ⟨0, k, rfl, rfl, rfl, rfl, Nat.zero_le _, hk, hb, rfl⟩ ?_
 rintro J hJ n t h ⟨i, z, t0, t1, t5, rfl, hi, hz0, hzb, hS⟩
 by_cases hlt : i < es.length
 ·rw [ql_ hlt] at hS
  rw [tl_ hlt] at hzb
  have hsd := hsh _ (getElem_mem hlt)
  obtain ⟨d, hd⟩ : ∃ d, es[i] = d := ⟨_, rfl⟩
  rw [hd] at hS hzb hsd
  have hg : es[i]? = some d := by rw [getElem?_eq_getElem hlt, hd]
  unfold aY_ at hsd
  obtain ⟨_, d0, hd0, hc0, hsd⟩ := hsd
  unfold bp_ at hc0
  obtain ⟨s0, rfl⟩ := hc0
  unfold aY_ at hsd
  obtain ⟨_, d1, hd1, hc1, hsd⟩ := hsd
  unfold bp_ at hc1
  obtain ⟨e1, rfl, hc1⟩ := hc1
  unfold aY_ at hsd
  obtain ⟨_, d2, hd2, hc2, hsd⟩ := hsd
  unfold bp_ at hc2
  obtain ⟨s2, rfl⟩ := hc2
  unfold aY_ at hsd
  subst hsd
  subst hd2
  subst hd1
  subst hd0
  simp only [a2_, a3_, Nat.add_zero] at hzb
  simp (disch := omega) only [t0, t1, t5, hlt, hg, go_sem, Nat.reduceEqDiff, Nat.reduceAdd, reduceCtorEq, Int.reduceNeg, ↓reduceIte]
  refine aa_.q (dz_ (z) (by omega) (by omega) _) ?_
  by_cases q0 : s0 = aZ_ (z)
  case neg =>
   simp (disch := omega) only [q0, go_sem, Int.reduceNeg, ↓reduceIte]
   exact aG_ (by rw [hS]; exact (he_ (by simp (disch := first | assumption | omega) only [kQ_])).symm)
  simp (disch := omega) only [t0, t1, t5, hg, q0, go_sem, Nat.reduceEqDiff, Nat.reduceAdd, Nat.reduceLeDiff, reduceCtorEq, Int.reduceNeg, ↓reduceIte]
  refine aa_.call (ny_ e1 (z + 1) hc1 (by omega) (by omega) _) ?_
  have hq1 := md_ (c := a2_ [.str]) (fun e he k hk => lf_ (mt := aZ_) [.str] e k (hc1 e he) hk) (z + 1) (by omega)
  by_cases q1 : (ck_ (co_ aZ_ [.str]) e1 (z + 1)) < 0
  ·simp (disch := omega) only [q1, go_sem, Int.reduceNeg, ↓reduceIte]
   exact aG_ (by rw [hS]; exact (he_ (by simp (disch := first | assumption | omega) only [jq_, sq_])).symm)
  simp (disch := omega) only [t0, t5, hg, q1, go_sem, Nat.reduceEqDiff, Nat.reduceAdd, Nat.reduceLeDiff, reduceCtorEq, Int.reduceNeg, ↓reduceIte]
  refine aa_.q (dz_ ((ck_ (co_ aZ_ [.str]) e1 (z + 1))) (by omega) (by omega) _) ?_
  by_cases q2 : s2 = aZ_ ((ck_ (co_ aZ_ [.str]) e1 (z + 1)))
  case neg =>
   simp (disch := omega) only [q2, go_sem, Int.reduceNeg, ↓reduceIte]
   exact aG_ (by rw [hS]; exact (he_ (by simp (disch := first | assumption | omega) only [jq_, kQ_, nQ_])).symm)
  simp (disch := omega) only [t5, q2, go_sem, Nat.reduceEqDiff, Int.reduceNeg, ↓reduceIte]
  exact ⟨es.length - (i + 1), by omega, hJ _ _ _ ⟨i + 1, (ck_ (co_ aZ_ [.str]) e1 (z + 1)) + 1, by simp [upd, t0], by simp [upd], by simp [upd], rfl, by omega, by omega, by omega, by rw [hS]; exact k5_ (by simp (disch := first | assumption | omega) only [jq_, nQ_, qi_]) (by omega)⟩⟩
 ·simp (disch := omega) only [t0, t1, t5, hlt, go_sem, Nat.reduceEqDiff, reduceCtorEq, Int.reduceNeg, ↓reduceIte]
  exact aG_ (by rw [hS, drop_eq_nil_of_le (by omega)]; rfl)
theorem p1_ (x : ad_) : aY_ [.list [.str, .list [.str], .str]] (ad_.cells x) := by
 simp only [ad_.cells, aY_, bp_]
 exact ⟨_, _, rfl, ⟨_, rfl, t7_ _⟩, rfl⟩
theorem kp_ (x : ad_) (hb : ad_.sz x ≤ 1048576) : bX_ [.list [.str, .list [.str], .str]] (ad_.cells x) ≤ 3 * 1048576 := by
 have c0 := s8_ (x.Nodes)
 have hsz0 : ∀ y : ad_, ad_.sz y = (ao_ ac_.sz) y.Nodes := fun _ => rfl
 simp only [hsz0] at *
 simp only [ad_.cells, bX_, a3_]
 omega
theorem pv_ (x : ad_) (hb : ad_.sz x ≤ 1048576) : aP_ Tryz.prog 11 [.agg (ad_.cells x)] (.agg (ad_.cells x)) (fun a => ∃ l_Nodes, a = .agg [.own l_Nodes (x.Nodes).length]) := by
 have hsz : ad_.sz x = (ao_ ac_.sz) x.Nodes := rfl
 refine da_ mixed Tryz.func11 w8_ rfl (fun h0 => ?_)
 simp (disch := omega) only [wf_, c11, ad_.cells, go_sem, Nat.reduceEqDiff, Nat.reduceAdd, ↓reduceIte]
 refine oG_ x.Nodes (by omega) _ _ (fun av1 hn1 hf1 hq1 => ?_)
 obtain ⟨l_Nodes, rfl⟩ := hq1
 simp (disch := omega) only [go_sem, Nat.reduceEqDiff, ↓reduceIte, cD_]
 exact ⟨_, rfl, im_ (ap_.cons ((hf1.b.keep fun l q1 q2 => sc_ (t := []) (by simp) q1 q2).widen (by first | omega | (simp; done) | (simp; omega)) (Nat.le_refl _)) (ap_.nil _ _ _) ⟨(by first | omega | (simp; done) | (simp; omega)), (by first | omega | (simp; done) | (simp; omega))⟩), l_Nodes, rfl⟩
theorem ly_ : wt_ Tryz.prog 16 aZ_ [.list [.str, .list [.str], .str]] := by
 intro m cs ds f H k K ho_0 nd hsh hk hb hK
 unfold aY_ at hsh
 obtain ⟨_, d0, hd0, hc0, hsh⟩ := hsh
 unfold bp_ at hc0
 obtain ⟨e0, rfl, hc0⟩ := hc0
 unfold aY_ at hsh
 subst hsh
 subst hd0
 simp only [bX_, a3_, Nat.add_zero] at hb
 have hlt : ∀ x ∈ f, x < H.length := fun x hx => by
  obtain ⟨row, _, _, _, q, _⟩ := aK_.inner (fun a r f ho => Own.inner ho) ho_0 x hx
  exact (List.getElem?_eq_some_iff.1 q).1
 obtain ⟨c0, q0, g0, w0, rfl, rfl, hw0, ho_1⟩ := ho_0.inv_cons
 obtain ⟨rfl, rfl⟩ := ho_1.inv_nil
 simp only [append_nil] at nd hlt
 have nd_0 : g0.Nodup := by first | exact nd | exact nd.1 | exact nd.2.1 | (simp_all; done)
 have hl_0 : ∀ x ∈ g0, x < H.length := fun x hx => hlt x (by simp [hx])
 have cc0 := hw0.cell_list
 simp only [AV.cell, Value.oneCell'] at cc0
 refine bd_ mixed Tryz.func16 DQ_ (ca_ rfl ?_)
 simp (disch := omega) only [B3_, c16, cc0, go_sem, Nat.reduceEqDiff, ↓reduceIte]
 refine o9_ _ c0 e0 g0 _ (k) _ (hw0.keep fun x hx => ?_) nd_0 hc0 (by omega) (by omega) (fun H1 m1 x1 y1 v1 => ?_)
 ·exact getElem?_append_left (hl_0 x hx)
 have hq0 : (aR_ (be_ aZ_ [.str, .list [.str], .str]) e0 (k)).2 = k + (bb_ (a2_ [.str, .list [.str], .str]) e0 : Nat) := dg_ (fun x _ k => dl_ _ x k) _
 have p1 := (y1 H.length (fun hq => by have := hl_0 _ hq; omega)).trans (cy_ _ _)
 simp (disch := omega) only [go_sem, ↓reduceIte]
 have hfr : ∀ x, x < H.length → x ∉ (g0) → H1[x]? = H[x]? := by
  intro x hx hxf
  try simp only [mem_append, not_or] at hxf
  rw [y1 x (by intro hq; first | (simp_all; done) | exact nd.2.2 _ hq _ hx rfl | exact nd.2.2 _ hx _ hq rfl | grind)]
  exact getElem?_append_left hx
 have hfin := hK H1 (by simp only [x1, la_]; omega) (fun x hx hxf => hfr x hx (by simpa using hxf)) (by simp only [bv_, bh_]; exact ⟨_, (aK_.mk_list (v1.keep fun x hx => by rfl) (aK_.mk_nil (Own _ (0 + 1))))⟩)
 simp only [bv_, bh_] at hfin
 exact hfin
theorem lE_ (ds : List AV) (k : Int) (hsh : aY_ [.list [.str, .list [.str], .str]] ds) (hp : ds.all AV.flat = true) (hk : 0 ≤ k) (hb : k + bX_ [.list [.str, .list [.str], .str]] ds ≤ 4611686018427387904) (h : List Row) : aa_ Tryz.prog 18 [.agg ds, .val (.int .i64 k)] h (.val (.int .i64 (fV_ aZ_ [.list [.str, .list [.str], .str]] ds k))) := by
 unfold aY_ at hsh
 obtain ⟨_, d0, hd0, hc0, hsh⟩ := hsh
 unfold bp_ at hc0
 obtain ⟨e0, rfl, hc0⟩ := hc0
 unfold aY_ at hsh
 subst hsh
 subst hd0
 refine aj_ mixed Tryz.func18 Eb_ rfl (by simp only [all_cons, all_nil, AV.plain, hp]; rfl) ?_ h
 simp only [bX_, a3_, Nat.add_zero] at hb
 simp (disch := omega) only [Aw_, c18, go_sem, Nat.reduceEqDiff, Nat.reduceAdd, Int.reduceNeg, ↓reduceIte]
 refine aa_.call (qg_ e0 (k) hc0 (by omega) (by omega) _) ?_
 have hq0 := md_ (c := a2_ [.str, .list [.str], .str]) (fun e he k hk => lf_ (mt := aZ_) [.str, .list [.str], .str] e k (hc0 e he) hk) (k) (by omega)
 by_cases q0 : (ck_ (co_ aZ_ [.str, .list [.str], .str]) e0 (k)) < 0
 ·simp (disch := omega) only [q0, go_sem, Int.reduceNeg, ↓reduceIte]
  exact aG_ (by simp only [fV_, cj_, *, if_true])
 simp (disch := omega) only [q0, go_sem, Nat.reduceEqDiff, Int.reduceNeg, ↓reduceIte]
 exact aG_ (by simp only [fV_, cj_, *, if_false])
theorem t3_ (x : ab_) : aY_ [.int, .str, .list [.str], .str, .int] (ab_.cells x) := by
 simp only [ab_.cells, aY_, bp_]
 exact ⟨_, _, rfl, ⟨_, rfl⟩, ⟨_, _, rfl, ⟨_, rfl⟩, ⟨_, _, rfl, ⟨_, rfl, lH_ _⟩, ⟨_, _, rfl, ⟨_, rfl⟩, ⟨_, _, rfl, ⟨_, rfl⟩, rfl⟩⟩⟩⟩⟩
theorem oM_ (x : ab_) (hb : ab_.sz x ≤ 1048576) : aP_ Tryz.prog 46 [.agg (ab_.cells x)] (.agg (ab_.cells x)) (fun a => ∃ l_Subs, a = .agg [.val (.int .i64 x.Kind), .val (.string x.Name), .own l_Subs (x.Subs).length, .val (.string x.Value), .val (.int .i64 x.N)]) := by
 have hsz : ab_.sz x = ByteArray.size x.Name + (ao_ ByteArray.size) x.Subs + ByteArray.size x.Value := rfl
 refine da_ mixed Tryz.func46 xN_ rfl (fun h0 => ?_)
 simp (disch := omega) only [v6_, c46, ab_.cells, go_sem, Nat.reduceEqDiff, Nat.reduceAdd, Nat.reduceLeDiff, ↓reduceIte]
 refine iq_ x.Subs (by omega) _ _ (fun av1 hn1 hf1 hq1 => ?_)
 obtain ⟨l_Subs, rfl⟩ := hq1
 simp (disch := omega) only [go_sem, Nat.reduceEqDiff, Nat.reduceAdd, Nat.reduceLeDiff, ↓reduceIte, cD_]
 exact ⟨_, rfl, im_ (ap_.val _ (ap_.val _ (ap_.cons ((hf1.b.keep fun l q1 q2 => sc_ (t := []) (by simp) q1 q2).widen (by first | omega | (simp; done) | (simp; omega)) (Nat.le_refl _)) (ap_.val _ (ap_.val _ (ap_.nil _ _ _))) ⟨(by first | omega | (simp; done) | (simp; omega)), (by first | omega | (simp; done) | (simp; omega))⟩))), l_Subs, rfl⟩
theorem sd_ (xs : List ab_) : ∀ e ∈ xs.map ab_.cells, aY_ [.int, .str, .list [.str], .str, .int] e := by
 intro e he
 obtain ⟨x, _, q⟩ := mem_map.1 he; subst q
 exact t3_ x
theorem q4_ (xs : List ab_) : bb_ (a2_ [.int, .str, .list [.str], .str, .int]) (xs.map ab_.cells) ≤ 5 * (ao_ ab_.sz) xs := by
 refine g9_ (fun x => ?_) xs
 have c0 := kt_ (x.Subs)
 have hsz0 : ∀ y : ab_, ab_.sz y = ByteArray.size y.Name + (ao_ ByteArray.size) y.Subs + ByteArray.size y.Value := fun _ => rfl
 simp only [hsz0] at *
 simp only [ab_.cells, a2_, a3_]
 omega
theorem nn_ (xs : List ab_) (hb : (ao_ ab_.sz) xs ≤ 1048576) : aP_ Tryz.prog 12 [.list 0 5 (xs.map ab_.cells)] (.list 0 5 (xs.map ab_.cells)) (fun a => ∃ l, a = .own l xs.length) := by
 have hx := Nat.le_trans (bO_ (f := ab_.sz) (xs := xs)) hb
 refine da_ mixed Tryz.func12 xR_ rfl (fun h0 => ?_)
 simp (disch := omega) only [uJ_, c12, go_sem, reduceCtorEq, ↓reduceIte]
 refine ⟨by omega, by omega, ?_⟩
 refine aL_ (fun n t h => ∃ (k : Nat) (done : List (List AV)) (rest : List Row), t 0 = .list 0 5 (xs.map ab_.cells) ∧ t 3 = .own h0.length xs.length ∧ t 4 = .val (.int .i64 k) ∧ h = h0 ++ ⟨79, 5, done ++ List.replicate (xs.length - k) ([.val (.int .i64 0), .val (.string (txt [])), .val (.slice none 0 0), .val (.string (txt [])), .val (.int .i64 0)] : List AV)⟩ :: rest ∧ n = xs.length - k ∧ k ≤ xs.length ∧ done.length = k ∧ bw_ (h0.length + 1) h.length h done ((xs.take k).map ab_.cells)) xs.length ?_ ?_
 ·exact ⟨0, [], [], rfl, rfl, rfl, by simp, rfl, Nat.zero_le _, rfl, .nil _ _ _⟩
 ·rintro J hJ n t h ⟨k, done, rest, t0, t3, t4, rfl, rfl, hk, hd, hF⟩
  have fl : (done ++ List.replicate (xs.length - k) ([.val (.int .i64 0), .val (.string (txt [])), .val (.slice none 0 0), .val (.string (txt [])), .val (.int .i64 0)] : List AV)).length = xs.length := by simp; omega
  by_cases hlt : k < xs.length
  ·have e1 : xs.length - k = (xs.length - (k + 1)) + 1 := by omega
   have fg : (done ++ List.replicate (xs.length - k) ([.val (.int .i64 0), .val (.string (txt [])), .val (.slice none 0 0), .val (.string (txt [])), .val (.int .i64 0)] : List AV))[k]? = some [.val (.int .i64 0), .val (.string (txt [])), .val (.slice none 0 0), .val (.string (txt [])), .val (.int .i64 0)] := by rw [getElem?_append_right (by omega), hd, Nat.sub_self, e1]; rfl
   have fs : ∀ c : List AV, (done ++ List.replicate (xs.length - k) ([.val (.int .i64 0), .val (.string (txt [])), .val (.slice none 0 0), .val (.string (txt [])), .val (.int .i64 0)] : List AV)).set k c = (done ++ [c]) ++ List.replicate (xs.length - (k + 1)) ([.val (.int .i64 0), .val (.string (txt [])), .val (.slice none 0 0), .val (.string (txt [])), .val (.int .i64 0)] : List AV) := by
    intro c; rw [set_append_right _ _ (by omega), hd, Nat.sub_self, e1, replicate_succ, set_cons_zero, append_assoc]; rfl
   simp (disch := omega) only [t0, t3, t4, hlt, ab_.cells, ag_, go_sem, Nat.reduceEqDiff, Nat.reduceAdd, reduceCtorEq, ↓reduceIte]
   refine oM_ xs[k] (by have := bD_ (f := ab_.sz) (getElem_mem hlt); omega) _ _ (fun av hn hf hq => ?_)
   obtain ⟨l_Subs, rfl⟩ := hq
   simp (disch := omega) only [t4, hlt, fl, fg, fs, go_sem, Nat.reduceEqDiff, Nat.reduceAdd, ↓reduceIte, ar_]
   refine ⟨xs.length - (k + 1), by omega, hJ _ _ _ ⟨k + 1, done ++ [[.val (.int .i64 xs[k].Kind), .val (.string xs[k].Name), .own l_Subs (xs[k].Subs).length, .val (.string xs[k].Value), .val (.int .i64 xs[k].N)]], rest ++ hn, by simp [upd, t0], by simp [upd, t3], by simp [upd], by simp, rfl, by omega, by simp [hd], ?_⟩⟩
   rw [take_succ_eq_append_getElem hlt, map_append]
   have hz := iW_ (r' := ⟨79, 5, (done ++ [[.val (.int .i64 xs[k].Kind), .val (.string xs[k].Name), .own l_Subs (xs[k].Subs).length, .val (.string xs[k].Value), .val (.int .i64 xs[k].N)]]) ++ List.replicate (xs.length - (k + 1)) ([.val (.int .i64 0), .val (.string (txt [])), .val (.slice none 0 0), .val (.string (txt [])), .val (.int .i64 0)] : List AV)⟩) hF hf
   first | exact hz | simpa using hz
  ·simp (disch := omega) only [t0, t3, t4, hlt, ag_, go_sem, Nat.reduceEqDiff, reduceCtorEq, ↓reduceIte]
   have e1 : xs.length - k = 0 := by omega
   rw [e1, replicate_zero, append_nil, take_of_length_le (by omega)] at hF
   rw [e1, replicate_zero, append_nil]
   exact ⟨_, rfl, jx_ hF (by omega), _, rfl⟩
theorem oV_ : gk_ Tryz.prog 17 aZ_ [.int, .str, .list [.str], .str, .int] := by
 refine gk_.of ?_ ?_
 ·intro H k K hK
  refine bd_ mixed Tryz.func17 wX_ (ca_ rfl ?_)
  simp (disch := omega) only [vz_, c17, go_sem]
  refine aL_ (fun n t h => t 0 = .val (.slice none 0 0) ∧ t 1 = .val (.int .i64 k) ∧ t 5 = .val (.int .i64 0) ∧ h = H) 0 ⟨rfl, rfl, rfl, rfl⟩ ?_
  rintro J hJ n t h ⟨t0, t1, t5, rfl⟩
  simp (disch := omega) only [t0, t1, t5, go_sem, Nat.reduceEqDiff, reduceCtorEq, Int.reduceLT, ↓reduceIte]
  exact hK
 ·intro l cnt lo hi E rs0 f H0 k K hT hl nd hrl hlo hhi hsh hk hb hK
  refine bd_ mixed Tryz.func17 wX_ (ca_ rfl ?_)
  obtain ⟨seg, hseg⟩ : ∃ seg, seg = (rs0.take hi).drop lo := ⟨_, rfl⟩
  rw [← hseg] at hsh hb hK
  have hsl : hi - lo = seg.length := by rw [hseg, length_drop, length_take]; omega
  have hsn : seg.length ≤ bb_ (a2_ [.int, .str, .list [.str], .str, .int]) seg := gO_ (c := a2_ [.int, .str, .list [.str], .str, .int]) (fun e he => by have q := hsh e he; unfold aY_ at q; obtain ⟨c, r, rfl, _, _⟩ := q; simp only [a2_, a3_]; omega)
  simp (disch := omega) only [vz_, c17, go_sem]
  refine aL_ (fun n t h => ∃ (i : Nat) (rs : List (List AV)), t 0 = .sub l cnt lo hi ∧ t 1 = .val (.int .i64 (aR_ (be_ aZ_ [.int, .str, .list [.str], .str, .int]) (seg.take i) k).2) ∧ t 5 = .val (.int .i64 i) ∧ MT H0 l E 5 cnt f rs h ∧ n = seg.length - i ∧ i ≤ seg.length ∧ rs.length = cnt ∧ (rs.take hi).drop lo = (aR_ (be_ aZ_ [.int, .str, .list [.str], .str, .int]) (seg.take i) k).1 ++ seg.drop i) seg.length ⟨0, rs0, rfl, rfl, rfl, hT, rfl, Nat.zero_le _, hrl, hseg.symm⟩ ?_
  rintro J hJ n t h ⟨i, rs, t0, t1, t5, hM, rfl, hi1, hrl1, hS⟩
  by_cases hlt : i < seg.length
  ·have hA : (aR_ (be_ aZ_ [.int, .str, .list [.str], .str, .int]) (seg.take i) k).1.length = i := by rw [gr_, length_take]; omega
   have hst := jT_ (g := (be_ aZ_ [.int, .str, .list [.str], .str, .int])) (k := k) hlt
   have hcn := ia_ (c := a2_ [.int, .str, .list [.str], .str, .int]) hlt
   have hzz : (aR_ (be_ aZ_ [.int, .str, .list [.str], .str, .int]) (seg.take i) k).2 = k + bb_ (a2_ [.int, .str, .list [.str], .str, .int]) (seg.take i) := dg_ (fun x _ k => dl_ [.int, .str, .list [.str], .str, .int] x k) k
   have hj4 : (lo : Int) + (i : Int) < (hi : Int) := by omega
   have hj2 := (kr_ hS hA hlt).2.1
   have hsd := hsh _ (getElem_mem hlt)
   have hss : ∀ d, ((rs.set (lo + i) d).take hi).drop lo = ((aR_ (be_ aZ_ [.int, .str, .list [.str], .str, .int]) (seg.take i) k).1 ++ [d]) ++ seg.drop (i + 1) := fun d => j2_ hS hA hlt
   clear hS hA
   generalize seg[i] = d at hst hcn hj2 hsd
   obtain ⟨z, hz⟩ : ∃ z, z = (aR_ (be_ aZ_ [.int, .str, .list [.str], .str, .int]) (seg.take i) k).2 := ⟨_, rfl⟩
   rw [← hz] at hst hzz t1
   have hz0 : 0 ≤ z := by omega
   unfold aY_ at hsd
   obtain ⟨_, d0, hd0, hc0, hsd⟩ := hsd
   unfold bp_ at hc0
   obtain ⟨n0, rfl⟩ := hc0
   unfold aY_ at hsd
   obtain ⟨_, d1, hd1, hc1, hsd⟩ := hsd
   unfold bp_ at hc1
   obtain ⟨s1, rfl⟩ := hc1
   unfold aY_ at hsd
   obtain ⟨_, d2, hd2, hc2, hsd⟩ := hsd
   unfold bp_ at hc2
   obtain ⟨e2, rfl, hc2⟩ := hc2
   unfold aY_ at hsd
   obtain ⟨_, d3, hd3, hc3, hsd⟩ := hsd
   unfold bp_ at hc3
   obtain ⟨s3, rfl⟩ := hc3
   unfold aY_ at hsd
   obtain ⟨_, d4, hd4, hc4, hsd⟩ := hsd
   unfold bp_ at hc4
   obtain ⟨n4, rfl⟩ := hc4
   unfold aY_ at hsd
   subst hsd
   subst hd4
   subst hd3
   subst hd2
   subst hd1
   subst hd0
   simp only [a2_, a3_, Nat.add_zero] at hcn
   obtain ⟨m, es, e, f2, r1, r2, r3, ho_0, nd2, hl2, hfin⟩ := hM.elem hl nd hj2
   obtain ⟨q0, rfl, ho_1⟩ := ho_0.inv_val
   obtain ⟨q1, rfl, ho_2⟩ := ho_1.inv_val
   obtain ⟨c2, q2, g2, w2, rfl, rfl, hw2, ho_3⟩ := ho_2.inv_cons
   obtain ⟨q3, rfl, ho_4⟩ := ho_3.inv_val
   obtain ⟨q4, rfl, ho_5⟩ := ho_4.inv_val
   obtain ⟨rfl, rfl⟩ := ho_5.inv_nil
   simp only [append_nil] at nd2 hl2
   have nd_2 : g2.Nodup := by first | exact nd2 | exact nd2.1 | exact nd2.2.1 | (simp_all; done)
   have hl_2 : l ∉ g2 := fun q => hl2 (by simp [q])
   have u1 : ∀ r, (h.set l r)[l]? = some r := fun r => getElem?_set_self (List.getElem?_eq_some_iff.1 r1).1
   have u2 : ∀ x, (es.set (lo + i) x)[lo + i]? = some x := fun x => getElem?_set_self (List.getElem?_eq_some_iff.1 r3).1
   simp (disch := omega) only [t0, t1, t5, hlt, hsl, hj4, hlo, r1, r2, r3, go_sem, Nat.reduceEqDiff, Nat.reduceAdd, Nat.reduceLeDiff, reduceCtorEq, ↓reduceIte]
   refine aa_.call (dz_ (z + 1) (by omega) (by omega) _) ?_
   simp (disch := omega) only [t0, t5, hj4, r2, u1, u2, ls_, set_set, go_sem, Nat.reduceEqDiff, Nat.reduceAdd, Nat.reduceLeDiff, reduceCtorEq, ↓reduceIte]
   refine i6_ _ c2 e2 g2 _ (z + 1 + 1) _ (hw2.keep fun x hx => ?_) nd_2 hc2 (by omega) (by omega) (fun H1 m1 x1 y1 v1 => ?_)
   ·first | rfl | exact getElem?_set_ne (by rintro rfl; exact hl_2 hx)
   have hq2 : (aR_ (be_ aZ_ [.str]) e2 (z + 1 + 1)).2 = z + 1 + 1 + (bb_ (a2_ [.str]) e2 : Nat) := dg_ (fun x _ k => dl_ _ x k) _
   have p1 := (y1 l hl_2).trans (by first | exact u1 _ | exact r1)
   have un1 : ∀ r, (H1.set l r)[l]? = some r := fun r => getElem?_set_self (List.getElem?_eq_some_iff.1 p1).1
   simp (disch := omega) only [t0, t5, go_sem, Nat.reduceEqDiff, reduceCtorEq, ↓reduceIte]
   refine aa_.call (dz_ ((aR_ (be_ aZ_ [.str]) e2 (z + 1 + 1)).2) (by omega) (by omega) _) ?_
   simp (disch := omega) only [t0, t5, hj4, r2, u2, ls_, set_set, p1, un1, go_sem, Nat.reduceEqDiff, Nat.reduceAdd, Nat.reduceLeDiff, reduceCtorEq, ↓reduceIte]
   refine ⟨seg.length - (i + 1), by omega, hJ _ _ _ ⟨i + 1, rs.set (lo + i) _, by simp [upd, t0], by rw [hst]; simp [upd, be_, bh_], by simp [upd], hfin _ _ _ ?_ (by first | exact un1 _ | exact p1) ?_ ?_, rfl, by omega, by simpa using hrl1, by rw [hst]; exact hss _⟩⟩
   ·simp only [ls_, x1]
   ·intro x hx
    simp only [mem_cons, not_or, append_nil] at hx
    try rw [getElem?_set_ne (Ne.symm hx.1)]
    rw [y1 x (by intro hq; first | (simp_all; done) | exact nd.2.2 _ hq _ hx rfl | exact nd.2.2 _ hx _ hq rfl | grind)]
    try rw [getElem?_set_ne (Ne.symm hx.1)]
   ·simp only [be_, bh_]
    exact ⟨_, (aK_.mk_val _ (aK_.mk_val _ (aK_.mk_list (v1.keep fun x hx => by first | rfl | ((try rw [getElem?_set_ne (by rintro rfl; exact hl_2 hx)]))) (aK_.mk_val _ (aK_.mk_val _ (aK_.mk_nil (Own _ (0 + 1))))))))⟩
  ·obtain ⟨m, es, r1, r2, _⟩ := hM.out
   have e1 : seg.take i = seg := take_of_length_le (by omega)
   have e2 : seg.drop i = [] := drop_eq_nil_of_le (by omega)
   rw [e1] at t1 hS
   rw [e2, append_nil] at hS
   simp (disch := omega) only [t0, t1, t5, hlt, hsl, hlo, r1, r2, go_sem, Nat.reduceEqDiff, reduceCtorEq, ↓reduceIte]
   exact hK _ rs hM hS
theorem tD_ (x : ah_) : aY_ [.int, .list [.int, .str, .list [.str], .str, .int]] (ah_.cells x) := by
 simp only [ah_.cells, aY_, bp_]
 exact ⟨_, _, rfl, ⟨_, rfl⟩, ⟨_, _, rfl, ⟨_, rfl, sd_ _⟩, rfl⟩⟩
theorem oC_ (x : ah_) (hb : ah_.sz x ≤ 1048576) : aP_ Tryz.prog 60 [.agg (ah_.cells x)] (.agg (ah_.cells x)) (fun a => ∃ l_Events, a = .agg [.val (.int .i64 x.Job), .own l_Events (x.Events).length]) := by
 have hsz : ah_.sz x = (ao_ ab_.sz) x.Events := rfl
 refine da_ mixed Tryz.func60 wI_ rfl (fun h0 => ?_)
 simp (disch := omega) only [uS_, c60, ah_.cells, go_sem, Nat.reduceEqDiff, Nat.reduceAdd, Nat.reduceLeDiff, ↓reduceIte]
 refine nn_ x.Events (by omega) _ _ (fun av1 hn1 hf1 hq1 => ?_)
 obtain ⟨l_Events, rfl⟩ := hq1
 simp (disch := omega) only [go_sem, Nat.reduceEqDiff, Nat.reduceAdd, ↓reduceIte, cD_]
 exact ⟨_, rfl, im_ (ap_.val _ (ap_.cons ((hf1.b.keep fun l q1 q2 => sc_ (t := []) (by simp) q1 q2).widen (by first | omega | (simp; done) | (simp; omega)) (Nat.le_refl _)) (ap_.nil _ _ _) ⟨(by first | omega | (simp; done) | (simp; omega)), (by first | omega | (simp; done) | (simp; omega))⟩)), l_Events, rfl⟩
theorem sF_ (xs : List ah_) : ∀ e ∈ xs.map ah_.cells, aY_ [.int, .list [.int, .str, .list [.str], .str, .int]] e := by
 intro e he
 obtain ⟨x, _, q⟩ := mem_map.1 he; subst q
 exact tD_ x
theorem q6_ (xs : List ah_) : bb_ (a2_ [.int, .list [.int, .str, .list [.str], .str, .int]]) (xs.map ah_.cells) ≤ 6 * (ao_ ah_.sz) xs := by
 refine g9_ (fun x => ?_) xs
 have c0 := q4_ (x.Events)
 have hsz0 : ∀ y : ah_, ah_.sz y = (ao_ ab_.sz) y.Events := fun _ => rfl
 simp only [hsz0] at *
 simp only [ah_.cells, a2_, a3_]
 omega
theorem sG_ (xs : List ah_) (hb : (ao_ ah_.sz) xs ≤ 1048576) : bb_ (a2_ [.int, .list [.int, .str, .list [.str], .str, .int]]) (xs.map ah_.cells) ≤ 6 * 1048576 := by
 have := q6_ xs
 omega
theorem nG_ (xs : List ah_) (hb : (ao_ ah_.sz) xs ≤ 1048576) : aP_ Tryz.prog 21 [.list 0 2 (xs.map ah_.cells)] (.list 0 2 (xs.map ah_.cells)) (fun a => ∃ l, a = .own l xs.length) := by
 have hx := Nat.le_trans (bO_ (f := ah_.sz) (xs := xs)) hb
 refine da_ mixed Tryz.func21 wj_ rfl (fun h0 => ?_)
 simp (disch := omega) only [vt_, c21, go_sem, reduceCtorEq, ↓reduceIte]
 refine ⟨by omega, by omega, ?_⟩
 refine aL_ (fun n t h => ∃ (k : Nat) (done : List (List AV)) (rest : List Row), t 0 = .list 0 2 (xs.map ah_.cells) ∧ t 3 = .own h0.length xs.length ∧ t 4 = .val (.int .i64 k) ∧ h = h0 ++ ⟨92, 2, done ++ List.replicate (xs.length - k) ([.val (.int .i64 0), .val (.slice none 0 0)] : List AV)⟩ :: rest ∧ n = xs.length - k ∧ k ≤ xs.length ∧ done.length = k ∧ bw_ (h0.length + 1) h.length h done ((xs.take k).map ah_.cells)) xs.length ?_ ?_
 ·exact ⟨0, [], [], rfl, rfl, rfl, by simp, rfl, Nat.zero_le _, rfl, .nil _ _ _⟩
 ·rintro J hJ n t h ⟨k, done, rest, t0, t3, t4, rfl, rfl, hk, hd, hF⟩
  have fl : (done ++ List.replicate (xs.length - k) ([.val (.int .i64 0), .val (.slice none 0 0)] : List AV)).length = xs.length := by simp; omega
  by_cases hlt : k < xs.length
  ·have e1 : xs.length - k = (xs.length - (k + 1)) + 1 := by omega
   have fg : (done ++ List.replicate (xs.length - k) ([.val (.int .i64 0), .val (.slice none 0 0)] : List AV))[k]? = some [.val (.int .i64 0), .val (.slice none 0 0)] := by rw [getElem?_append_right (by omega), hd, Nat.sub_self, e1]; rfl
   have fs : ∀ c : List AV, (done ++ List.replicate (xs.length - k) ([.val (.int .i64 0), .val (.slice none 0 0)] : List AV)).set k c = (done ++ [c]) ++ List.replicate (xs.length - (k + 1)) ([.val (.int .i64 0), .val (.slice none 0 0)] : List AV) := by
    intro c; rw [set_append_right _ _ (by omega), hd, Nat.sub_self, e1, replicate_succ, set_cons_zero, append_assoc]; rfl
   simp (disch := omega) only [t0, t3, t4, hlt, ah_.cells, ag_, go_sem, Nat.reduceEqDiff, Nat.reduceAdd, reduceCtorEq, ↓reduceIte]
   refine oC_ xs[k] (by have := bD_ (f := ah_.sz) (getElem_mem hlt); omega) _ _ (fun av hn hf hq => ?_)
   obtain ⟨l_Events, rfl⟩ := hq
   simp (disch := omega) only [t4, hlt, fl, fg, fs, go_sem, Nat.reduceEqDiff, Nat.reduceAdd, ↓reduceIte, ar_]
   refine ⟨xs.length - (k + 1), by omega, hJ _ _ _ ⟨k + 1, done ++ [[.val (.int .i64 xs[k].Job), .own l_Events (xs[k].Events).length]], rest ++ hn, by simp [upd, t0], by simp [upd, t3], by simp [upd], by simp, rfl, by omega, by simp [hd], ?_⟩⟩
   rw [take_succ_eq_append_getElem hlt, map_append]
   have hz := iW_ (r' := ⟨92, 2, (done ++ [[.val (.int .i64 xs[k].Job), .own l_Events (xs[k].Events).length]]) ++ List.replicate (xs.length - (k + 1)) ([.val (.int .i64 0), .val (.slice none 0 0)] : List AV)⟩) hF hf
   first | exact hz | simpa using hz
  ·simp (disch := omega) only [t0, t3, t4, hlt, ag_, go_sem, Nat.reduceEqDiff, reduceCtorEq, ↓reduceIte]
   have e1 : xs.length - k = 0 := by omega
   rw [e1, replicate_zero, append_nil, take_of_length_le (by omega)] at hF
   rw [e1, replicate_zero, append_nil]
   exact ⟨_, rfl, jx_ hF (by omega), _, rfl⟩
theorem oK_ : gk_ Tryz.prog 24 aZ_ [.int, .list [.int, .str, .list [.str], .str, .int]] := by
 refine gk_.of ?_ ?_
 ·intro H k K hK
  refine bd_ mixed Tryz.func24 xK_ (ca_ rfl ?_)
  simp (disch := omega) only [uB_, c24, go_sem]
  refine aL_ (fun n t h => t 0 = .val (.slice none 0 0) ∧ t 1 = .val (.int .i64 k) ∧ t 5 = .val (.int .i64 0) ∧ h = H) 0 ⟨rfl, rfl, rfl, rfl⟩ ?_
  rintro J hJ n t h ⟨t0, t1, t5, rfl⟩
  simp (disch := omega) only [t0, t1, t5, go_sem, Nat.reduceEqDiff, reduceCtorEq, Int.reduceLT, ↓reduceIte]
  exact hK
 ·intro l cnt lo hi E rs0 f H0 k K hT hl nd hrl hlo hhi hsh hk hb hK
  refine bd_ mixed Tryz.func24 xK_ (ca_ rfl ?_)
  obtain ⟨seg, hseg⟩ : ∃ seg, seg = (rs0.take hi).drop lo := ⟨_, rfl⟩
  rw [← hseg] at hsh hb hK
  have hsl : hi - lo = seg.length := by rw [hseg, length_drop, length_take]; omega
  have hsn : seg.length ≤ bb_ (a2_ [.int, .list [.int, .str, .list [.str], .str, .int]]) seg := gO_ (c := a2_ [.int, .list [.int, .str, .list [.str], .str, .int]]) (fun e he => by have q := hsh e he; unfold aY_ at q; obtain ⟨c, r, rfl, _, _⟩ := q; simp only [a2_, a3_]; omega)
  simp (disch := omega) only [uB_, c24, go_sem]
  refine aL_ (fun n t h => ∃ (i : Nat) (rs : List (List AV)), t 0 = .sub l cnt lo hi ∧ t 1 = .val (.int .i64 (aR_ (be_ aZ_ [.int, .list [.int, .str, .list [.str], .str, .int]]) (seg.take i) k).2) ∧ t 5 = .val (.int .i64 i) ∧ MT H0 l E 2 cnt f rs h ∧ n = seg.length - i ∧ i ≤ seg.length ∧ rs.length = cnt ∧ (rs.take hi).drop lo = (aR_ (be_ aZ_ [.int, .list [.int, .str, .list [.str], .str, .int]]) (seg.take i) k).1 ++ seg.drop i) seg.length ⟨0, rs0, rfl, rfl, rfl, hT, rfl, Nat.zero_le _, hrl, hseg.symm⟩ ?_
  rintro J hJ n t h ⟨i, rs, t0, t1, t5, hM, rfl, hi1, hrl1, hS⟩
  by_cases hlt : i < seg.length
  ·have hA : (aR_ (be_ aZ_ [.int, .list [.int, .str, .list [.str], .str, .int]]) (seg.take i) k).1.length = i := by rw [gr_, length_take]; omega
   have hst := jT_ (g := (be_ aZ_ [.int, .list [.int, .str, .list [.str], .str, .int]])) (k := k) hlt
   have hcn := ia_ (c := a2_ [.int, .list [.int, .str, .list [.str], .str, .int]]) hlt
   have hzz : (aR_ (be_ aZ_ [.int, .list [.int, .str, .list [.str], .str, .int]]) (seg.take i) k).2 = k + bb_ (a2_ [.int, .list [.int, .str, .list [.str], .str, .int]]) (seg.take i) := dg_ (fun x _ k => dl_ [.int, .list [.int, .str, .list [.str], .str, .int]] x k) k
   have hj4 : (lo : Int) + (i : Int) < (hi : Int) := by omega
   have hj2 := (kr_ hS hA hlt).2.1
   have hsd := hsh _ (getElem_mem hlt)
   have hss : ∀ d, ((rs.set (lo + i) d).take hi).drop lo = ((aR_ (be_ aZ_ [.int, .list [.int, .str, .list [.str], .str, .int]]) (seg.take i) k).1 ++ [d]) ++ seg.drop (i + 1) := fun d => j2_ hS hA hlt
   clear hS hA
   generalize seg[i] = d at hst hcn hj2 hsd
   obtain ⟨z, hz⟩ : ∃ z, z = (aR_ (be_ aZ_ [.int, .list [.int, .str, .list [.str], .str, .int]]) (seg.take i) k).2 := ⟨_, rfl⟩
   rw [← hz] at hst hzz t1
   have hz0 : 0 ≤ z := by omega
   unfold aY_ at hsd
   obtain ⟨_, d0, hd0, hc0, hsd⟩ := hsd
   unfold bp_ at hc0
   obtain ⟨n0, rfl⟩ := hc0
   unfold aY_ at hsd
   obtain ⟨_, d1, hd1, hc1, hsd⟩ := hsd
   unfold bp_ at hc1
   obtain ⟨e1, rfl, hc1⟩ := hc1
   unfold aY_ at hsd
   subst hsd
   subst hd1
   subst hd0
   simp only [a2_, a3_, Nat.add_zero] at hcn
   obtain ⟨m, es, e, f2, r1, r2, r3, ho_0, nd2, hl2, hfin⟩ := hM.elem hl nd hj2
   obtain ⟨q0, rfl, ho_1⟩ := ho_0.inv_val
   obtain ⟨c1, q1, g1, w1, rfl, rfl, hw1, ho_2⟩ := ho_1.inv_cons
   obtain ⟨rfl, rfl⟩ := ho_2.inv_nil
   simp only [append_nil] at nd2 hl2
   have nd_1 : g1.Nodup := by first | exact nd2 | exact nd2.1 | exact nd2.2.1 | (simp_all; done)
   have hl_1 : l ∉ g1 := fun q => hl2 (by simp [q])
   have u1 : ∀ r, (h.set l r)[l]? = some r := fun r => getElem?_set_self (List.getElem?_eq_some_iff.1 r1).1
   have u2 : ∀ x, (es.set (lo + i) x)[lo + i]? = some x := fun x => getElem?_set_self (List.getElem?_eq_some_iff.1 r3).1
   simp (disch := omega) only [t0, t1, t5, hlt, hsl, hj4, hlo, r1, r2, r3, u1, u2, ls_, go_sem, Nat.reduceEqDiff, Nat.reduceAdd, Nat.reduceLeDiff, reduceCtorEq, ↓reduceIte]
   refine oV_ _ c1 e1 g1 _ (z + 1) _ (hw1.keep fun x hx => ?_) nd_1 hc1 (by omega) (by omega) (fun H1 m1 x1 y1 v1 => ?_)
   ·first | rfl | exact getElem?_set_ne (by rintro rfl; exact hl_1 hx)
   have hq1 : (aR_ (be_ aZ_ [.int, .str, .list [.str], .str, .int]) e1 (z + 1)).2 = z + 1 + (bb_ (a2_ [.int, .str, .list [.str], .str, .int]) e1 : Nat) := dg_ (fun x _ k => dl_ _ x k) _
   have p1 := (y1 l hl_1).trans (by first | exact u1 _ | exact r1)
   have un1 : ∀ r, (H1.set l r)[l]? = some r := fun r => getElem?_set_self (List.getElem?_eq_some_iff.1 p1).1
   simp (disch := omega) only [t5, go_sem, Nat.reduceEqDiff, ↓reduceIte]
   refine ⟨seg.length - (i + 1), by omega, hJ _ _ _ ⟨i + 1, rs.set (lo + i) _, by simp [upd, t0], by rw [hst]; simp [upd, be_, bh_], by simp [upd], hfin _ _ _ ?_ (by first | exact un1 _ | exact p1) ?_ ?_, rfl, by omega, by simpa using hrl1, by rw [hst]; exact hss _⟩⟩
   ·simp only [ls_, x1]
   ·intro x hx
    simp only [mem_cons, not_or, append_nil] at hx
    try rw [getElem?_set_ne (Ne.symm hx.1)]
    rw [y1 x (by intro hq; first | (simp_all; done) | exact nd.2.2 _ hq _ hx rfl | exact nd.2.2 _ hx _ hq rfl | grind)]
    try rw [getElem?_set_ne (Ne.symm hx.1)]
   ·simp only [be_, bh_]
    exact ⟨_, (aK_.mk_val _ (aK_.mk_list (v1.keep fun x hx => by first | rfl | ((try rw [getElem?_set_ne (by rintro rfl; exact hl_1 hx)]))) (aK_.mk_nil (Own _ (0 + 1)))))⟩
  ·obtain ⟨m, es, r1, r2, _⟩ := hM.out
   have e1 : seg.take i = seg := take_of_length_le (by omega)
   have e2 : seg.drop i = [] := drop_eq_nil_of_le (by omega)
   rw [e1] at t1 hS
   rw [e2, append_nil] at hS
   simp (disch := omega) only [t0, t1, t5, hlt, hsl, hlo, r1, r2, go_sem, Nat.reduceEqDiff, reduceCtorEq, ↓reduceIte]
   exact hK _ rs hM hS
end Go.Proofs.YtfplhbjggecnpaaGreatDoor
