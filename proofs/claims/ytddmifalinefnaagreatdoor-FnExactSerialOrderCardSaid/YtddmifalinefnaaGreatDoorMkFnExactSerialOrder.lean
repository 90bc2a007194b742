/-
 Contracts of functions. Conditions: as each theorem says.
-/
import Derived.Test.YtddmifalinefnaaGreatDoorGnFnExactSerialOrder
import Derived.Test.YtddmifalinefnaaGreatDoorAwC
import Derived.Test.YtddmifalinefnaaGreatDoorPlNum
namespace Go.Proofs.YtddmifalinefnaaGreatDoor
open Tryz (prog)
open Nat (reduceEqDiff reduceLeDiff)
open List
open Go.AW
set_option linter.unusedVariables false
set_option linter.unusedSimpArgs false
set_option maxRecDepth 4000
def bf_ (k : Int) : ByteArray := if k ≤ 0 then txt [109, 48] else txt (109 :: bB_ k.toNat)
theorem oa_ (u : Nat) (h : u ≠ 0) : bB_ u = bB_ (u / 10) ++ [UInt8.ofNat (48 + u % 10)] := by
 unfold bB_
 rw [if_neg h, Lib.decDigits]
 by_cases q : u < 10
 ·rw [dif_pos q, if_pos (by omega)]
  have : u % 10 = u := by omega
  rw [this]; rfl
 ·rw [dif_neg q, if_neg (by omega)]
theorem nl_ (u : Nat) (h : u ≤ 4611686018427387904) : (bB_ u).length ≤ 19 := by
 unfold bB_
 split
 ·simp
 ·rw [Go.Lib.decDigits_length]; exact gg_ 18 _ (by omega)
def c27 : LC :=
 .q [.o [.s 2 (.mov (.const (.string ⟨#[]⟩)))], .q [.o [.m 4 0, .bk 5 .leq false 4 0], .k 5 (.q [.o [.s 2 (.mov (.const (.string ⟨#[109, 48]⟩)))], .ret]) .skip], .o [.s 3 (.mov (.const (.string ⟨#[]⟩)))], .block 0 (.loop
 (.q [.q [.o [.m 6 0, .bk 7 .gtr false 6 0], .k 7 .skip (.exit 0)], .block 1 (.q [.o [.m 8 0, .bk 9 .rem false 8 10, .s 10 (.bin .add false (.const (.int .i64 48)) (.tmp 9)), .s 11 (.convInt .u8 (.tmp 10)), .s 12
 (.buildSlice 5 1 (.int .u8 0) 1 [(0, .tmp 11)]), .s 13 (.toStr (.tmp 12)), .m 14 3, .bb 15 .add false 13 14, .m 3 15], .o [.m 16 0, .bk 17 .quo false 16 10, .m 0 17]])])), .o [.m 18 3, .s 19 (.bin .add false (.const
 (.string ⟨#[109]⟩)) (.tmp 18)), .m 2 19], .ret]
def r7_ : LF := ⟨1, 20, c27, [.tmp 2]⟩
theorem ww_ : av_ prog Tryz.f27 r7_ := am_
theorem hv_ (k : Int) (hk : 0 ≤ k) (hb : k ≤ 4611686018427387904) (h : List Row) : aa_ prog 27 [.val (.int .i64 k)] h (.val (.string (bf_ k))) := by
 refine ap_ mixed Tryz.func27 ww_ rfl rfl ?_ h
 by_cases h0 : k ≤ 0
 ·simp (disch := omega) only [r7_, c27, h0, go_sem, reduceCtorEq, ↓reduceIte]
  exact bj_ (by rw [bf_, if_pos h0])
 ·simp (disch := omega) only [r7_, c27, h0, go_sem, reduceCtorEq, ↓reduceIte]
  have hL := nl_ k.toNat (by omega)
  refine aB_ (fun n t h => ∃ (u : Nat) (out : List UInt8), t 0 = .val (.int .i64 u) ∧ t 3 = .val (.string (txt out)) ∧ u = n ∧ u ≤ 4611686018427387904 ∧ bB_ k.toNat = bB_ u ++ out) k.toNat ⟨k.toNat, [], by simp [upd, fg_]; omega, rfl, rfl, by omega, by simp⟩ ?_
  rintro J hJ n t h ⟨u, out, t0, t3, rfl, hu, hS⟩
  by_cases hz : 0 < u
  ·have hm := oa_ u (by omega)
   have hlen := congrArg List.length hS
   simp only [la_] at hlen
   have hl1 : ([UInt8.ofNat (48 + u % 10)] : List UInt8).length + out.length ≤ 9223372036854775807 := by simp only [lc_, ln_]; omega
   have e1 : ((u : Int) % 10).toNat = u % 10 := by omega
   have e2 : (48 + (u : Int) % 10).toNat = 48 + u % 10 := by omega
   have e3 : ((u : Int) / 10) = ((u / 10 : Nat) : Int) := by omega
   simp (disch := omega) only [t0, t3, hz, e2, e3, h7_ _ _ _ hl1, go_sem, reduceEqDiff, reduceCtorEq, ↓reduceIte]
   exact ⟨u / 10, by omega, hJ _ _ _ ⟨u / 10, UInt8.ofNat (48 + u % 10) :: out, by simp [upd], by simp [upd], rfl, by omega, by rw [hS, hm, append_assoc]; rfl⟩⟩
  ·have hz' : u = 0 := by omega
   subst hz'
   have hlen := congrArg List.length hS
   simp only [la_] at hlen
   have hl2 : ([109] : List UInt8).length + out.length ≤ 9223372036854775807 := by simp only [lc_, ln_]; omega
   simp (disch := omega) only [t0, t3, h7_ _ _ _ hl2, go_sem, reduceEqDiff, Int.reduceLT, ↓reduceIte]
   exact bj_ (by rw [bf_, if_neg h0, hS]; rfl)
def c28 : LC :=
 .q [.o [.ki 4 0], .q [.o [.ki 5 0], .block 0 (.loop (.q [.q [.o [.m 6 5, .m 7 0, .ll 8 7, .bb 9 .lss false 6 8], .k 9 .skip (.exit 0)], .block 1 (.q [.o [.m 12 0, .m 13 5, .m 14 1, .c1 15 27 14, .ia 16 1 12 13, .st 1 16
 15], .o [.m 17 1, .bk 18 .add false 17 1, .m 1 18]]), .o [.m 10 5, .bk 11 .add false 10 1, .m 5 11]]))], .o [.m 19 1, .m 4 19], .ret]
def sH_ : LF := ⟨2, 20, c28, [.tmp 4]⟩
theorem sY_ : av_ prog Tryz.f28 sH_ := am_
def c11 : LC :=
 .q [.o [.ki 4 0], .q [.o [.ki 5 0], .block 0 (.loop (.q [.q [.o [.m 6 5, .m 7 0, .ll 8 7, .bb 9 .lss false 6 8], .k 9 .skip (.exit 0)], .block 1 (.q [.o [.m 12 0, .m 13 5, .m 14 1, .ia 15 6 12 13, .fa 16 0 15, .st 1 16
 14], .o [.m 17 1, .bk 18 .add false 17 1, .m 1 18], .o [.m 19 0, .m 20 5, .m 21 1, .ia 22 6 19 20, .fa 23 1 22, .fa 24 0 23, .st 1 24 21], .o [.m 25 1, .bk 26 .add false 25 1, .m 1 26], .o [.m 27 0, .m 28 5, .m 29 1, .c1
 30 27 29, .ia 31 6 27 28, .fa 32 1 31, .fa 33 1 32, .st 1 33 30], .o [.m 34 1, .bk 35 .add false 34 1, .m 1 35], .o [.m 36 0, .m 37 5, .ia 38 6 36 37, .fa 39 1 38, .fa 40 2 39, .ln 41 40, .m 42 1, .c2 43 28 41 42, .m 1
 43], .o [.m 44 0, .m 45 5, .m 46 1, .c1 47 27 46, .ia 48 6 44 45, .fa 49 1 48, .fa 50 3 49, .st 1 50 47], .o [.m 51 1, .bk 52 .add false 51 1, .m 1 52], .o [.m 53 0, .m 54 5, .m 55 1, .ia 56 6 53 54, .fa 57 1 56, .fa 58
 4 57, .st 1 58 55], .o [.m 59 1, .bk 60 .add false 59 1, .m 1 60]]), .o [.m 10 5, .bk 11 .add false 10 1, .m 5 11]]))], .o [.m 61 1, .m 4 61], .ret]
def r0_ : LF := ⟨2, 62, c11, [.tmp 4]⟩
theorem sX_ : av_ prog Tryz.f11 r0_ := am_
def c17 : LC :=
 .q [.o [.ki 4 0], .q [.o [.ki 5 0], .block 0 (.loop (.q [.q [.o [.m 6 5, .m 7 0, .ll 8 7, .bb 9 .lss false 6 8], .k 9 .skip (.exit 0)], .block 1 (.q [.o [.m 12 0, .m 13 5, .m 14 1, .ia 15 1 12 13, .st 1 15 14], .o [.m 16
 1, .bk 17 .add false 16 1, .m 1 17]]), .o [.m 10 5, .bk 11 .add false 10 1, .m 5 11]]))], .o [.m 18 1, .m 4 18], .ret]
def rW_ : LF := ⟨2, 19, c17, [.tmp 4]⟩
theorem sZ_ : av_ prog Tryz.f17 rW_ := am_
def c18 : LC :=
 .q [.o [.ki 4 0], .q [.o [.ki 5 0], .block 0 (.loop (.q [.q [.o [.m 6 5, .m 7 0, .ll 8 7, .bb 9 .lss false 6 8], .k 9 .skip (.exit 0)], .block 1 (.q [.q [.o [.m 12 0, .m 13 5, .ia 14 1 12 13, .ln 15 14, .m 16 1, .bb 17
 .neq false 15 16], .k 17 (.q [.o [.s 4 (.mov (.const (.int .i64 (-1))))], .ret]) .skip], .o [.m 18 1, .bk 19 .add false 18 1, .m 1 19]]), .o [.m 10 5, .bk 11 .add false 10 1, .m 5 11]]))], .o [.m 20 1, .m 4 20], .ret]
def uS_ : LF := ⟨2, 21, c18, [.tmp 4]⟩
theorem wG_ : av_ prog Tryz.f18 uS_ := am_
theorem ow_ (xs : List ByteArray) : ∀ e ∈ xs.map aF_, bv_ [.str] e := by
 intro e he
 obtain ⟨x, _, q⟩ := mem_map.1 he; subst q
 simp only [bv_, bs_, aF_]
 exact ⟨_, _, rfl, ⟨_, rfl⟩, rfl⟩
theorem nN_ (xs : List ByteArray) : aY_ (aU_ [.str]) (xs.map aF_) ≤ 1 * (aI_ ByteArray.size) xs := by
 refine gX_ (fun x => ?_) xs
 simp only [aU_, aV_]
 omega
theorem kO_ (xs : List ByteArray) (hb : (aI_ ByteArray.size) xs ≤ 1048576) : bh_ prog 70 [.list 0 1 (xs.map aF_)] (.list 0 1 (xs.map aF_)) (fun a => ∃ l, a = .own l xs.length) := by
 have hx := Nat.le_trans (ci_ (f := ByteArray.size) (xs := xs)) hb
 refine dP_ mixed Tryz.func70 ta_ rfl (fun h0 => ?_)
 simp (disch := omega) only [rr_, c70, go_sem, reduceCtorEq, ↓reduceIte]
 refine ⟨by omega, by omega, ?_⟩
 refine aB_ (fun n t h => ∃ k : Nat, t 0 = .list 0 1 (xs.map aF_) ∧ t 3 = .own h0.length xs.length ∧ t 4 = .val (.int .i64 k) ∧ h = h0 ++ [⟨9, 1, bI_ (xs.map aF_) [.val (.string (txt []))] k⟩] ∧ n = xs.length - k ∧ k ≤ xs.length) xs.length ?_ ?_
 ·exact ⟨0, rfl, rfl, rfl, by rw [hr_]; simp, rfl, Nat.zero_le _⟩
 ·rintro J hJ n t h ⟨k, t0, t3, t4, rfl, rfl, hk⟩
  have fl : (bI_ (xs.map aF_) [.val (.string (txt []))] k).length = xs.length := by rw [f4_ _ _ (by simpa using hk)]; simp
  by_cases hlt : k < xs.length
  ·have fg : (bI_ (xs.map aF_) [.val (.string (txt []))] k)[k]? = some [.val (.string (txt []))] := h8_ _ _ (by simpa using hlt)
   have fs := he_ (xs.map aF_) [.val (.string (txt []))] (aF_ xs[k]) (k := k) (by rw [getElem?_map, getElem?_eq_getElem hlt]; rfl)
   simp (disch := omega) only [t0, t3, t4, hlt, fl, fg, ar_, go_sem, reduceEqDiff, reduceCtorEq, ↓reduceIte, aq_]
   try simp (disch := omega) only [fs, go_sem]
   exact ⟨xs.length - (k + 1), by omega, hJ _ _ _ ⟨k + 1, by simp [upd, t0], by simp [upd, t3], by simp [upd], by simp [], rfl, by omega⟩⟩
  ·simp (disch := omega) only [t0, t3, t4, hlt, fl, ar_, go_sem, reduceEqDiff, reduceCtorEq, ↓reduceIte]
   have ff : bI_ (xs.map aF_) [.val (.string (txt []))] k = xs.map aF_ := hU_ _ _ (by simp; omega)
   rw [ff]
   refine ⟨_, rfl, (az_.mkown (lo := h0.length + 1) (hi := h0.length + 1) (bm_.ofVals _ _ _ _ ?_) (by rw [gb_]; rfl) (by simp) (Nat.le_refl _) (Nat.lt_succ_self _) (Nat.le_refl _)).fresh, _, rfl⟩
   intro e he c hc
   obtain ⟨x, _, q⟩ := mem_map.1 he; subst q
   simp only [aF_, mem_singleton] at hc
   exact ⟨_, hc⟩
theorem lz_ : gn_ prog 28 bf_ [.str] := by
 refine gn_.of ?_ ?_
 ·intro H k K hK
  refine bp_ mixed Tryz.func28 sY_ (co_ rfl ?_)
  simp (disch := omega) only [sH_, c28, go_sem]
  refine aB_ (fun n t h => t 0 = .val (.slice none 0 0) ∧ t 1 = .val (.int .i64 k) ∧ t 5 = .val (.int .i64 0) ∧ h = H) 0 ⟨rfl, rfl, rfl, rfl⟩ ?_
  rintro J hJ n t h ⟨t0, t1, t5, rfl⟩
  simp (disch := omega) only [t0, t1, t5, go_sem, reduceEqDiff, reduceCtorEq, Int.reduceLT, ↓reduceIte]
  exact hK
 ·intro l cnt lo hi E rs0 f H0 k K hT hl nd hrl hlo hhi hsh hk hb hK
  refine bp_ mixed Tryz.func28 sY_ (co_ rfl ?_)
  obtain ⟨seg, hseg⟩ : ∃ seg, seg = (rs0.take hi).drop lo := ⟨_, rfl⟩
  rw [← hseg] at hsh hb hK
  have hsl : hi - lo = seg.length := by rw [hseg, length_drop, length_take]; omega
  have hsn : seg.length ≤ aY_ (aU_ [.str]) seg := hM_ (c := aU_ [.str]) (fun e he => by have q := hsh e he; unfold bv_ at q; obtain ⟨c, r, rfl, _, _⟩ := q; simp only [aU_, aV_]; omega)
  simp (disch := omega) only [sH_, c28, go_sem]
  refine aB_ (fun n t h => ∃ (i : Nat) (rs : List (List AV)), t 0 = .sub l cnt lo hi ∧ t 1 = .val (.int .i64 (aE_ (a4_ bf_ [.str]) (seg.take i) k).2) ∧ t 5 = .val (.int .i64 i) ∧ MT H0 l E 1 cnt f rs h ∧ n = seg.length - i ∧ i ≤ seg.length ∧ rs.length = cnt ∧ (rs.take hi).drop lo = (aE_ (a4_ bf_ [.str]) (seg.take i) k).1 ++ seg.drop i) seg.length ⟨0, rs0, rfl, rfl, rfl, hT, rfl, Nat.zero_le _, hrl, hseg.symm⟩ ?_
  rintro J hJ n t h ⟨i, rs, t0, t1, t5, hM, rfl, hi1, hrl1, hS⟩
  by_cases hlt : i < seg.length
  ·have hA : (aE_ (a4_ bf_ [.str]) (seg.take i) k).1.length = i := by rw [gk_, length_take]; omega
   have hst := jV_ (g := (a4_ bf_ [.str])) (k := k) hlt
   have hcn := ij_ (c := aU_ [.str]) hlt
   have hzz : (aE_ (a4_ bf_ [.str]) (seg.take i) k).2 = k + aY_ (aU_ [.str]) (seg.take i) := dK_ (fun x _ k => dl_ [.str] x k) k
   have hj4 : (lo : Int) + (i : Int) < (hi : Int) := by omega
   have hj2 := (kH_ hS hA hlt).2.1
   have hsd := hsh _ (getElem_mem hlt)
   have hss : ∀ d, ((rs.set (lo + i) d).take hi).drop lo = ((aE_ (a4_ bf_ [.str]) (seg.take i) k).1 ++ [d]) ++ seg.drop (i + 1) := fun d => jO_ hS hA hlt
   clear hS hA
   generalize seg[i] = d at hst hcn hj2 hsd
   obtain ⟨z, hz⟩ : ∃ z, z = (aE_ (a4_ bf_ [.str]) (seg.take i) k).2 := ⟨_, rfl⟩
   rw [← hz] at hst hzz t1
   have hz0 : 0 ≤ z := by omega
   unfold bv_ at hsd
   obtain ⟨_, d0, hd0, hc0, hsd⟩ := hsd
   unfold bs_ at hc0
   obtain ⟨s0, rfl⟩ := hc0
   unfold bv_ at hsd
   subst hsd
   subst hd0
   simp only [aU_, aV_, Nat.add_zero] at hcn
   obtain ⟨m, es, e, f2, r1, r2, r3, ho_0, nd2, hl2, hfin⟩ := hM.elem hl nd hj2
   obtain ⟨q0, rfl, ho_1⟩ := ho_0.inv_val
   obtain ⟨rfl, rfl⟩ := ho_1.inv_nil
   have u1 : ∀ r, (h.set l r)[l]? = some r := fun r => getElem?_set_self (List.getElem?_eq_some_iff.1 r1).1
   have u2 : ∀ x, (es.set (lo + i) x)[lo + i]? = some x := fun x => getElem?_set_self (List.getElem?_eq_some_iff.1 r3).1
   simp (disch := omega) only [t0, t1, t5, hlt, hsl, hlo, r1, r2, go_sem, reduceEqDiff, reduceCtorEq, ↓reduceIte]
   refine aa_.call (hv_ (z) (by omega) (by omega) _) ?_
   simp (disch := omega) only [t1, t5, hj4, r1, r2, r3, go_sem, reduceEqDiff, ↓reduceIte]
   refine ⟨seg.length - (i + 1), by omega, hJ _ _ _ ⟨i + 1, rs.set (lo + i) _, by simp [upd, t0], by rw [hst]; simp [upd, a4_, be_], by simp [upd], hfin _ _ _ ?_ (by first | exact u1 _ | exact u1 _) ?_ ?_, rfl, by omega, by simpa using hrl1, by rw [hst]; exact hss _⟩⟩
   ·simp only [ls_]
   ·intro x hx
    simp only [mem_cons, not_or] at hx
    try rw [getElem?_set_ne (Ne.symm hx.1)]
   ·simp only [a4_, be_]
    exact ⟨_, (aA_.mk_val _ (aA_.mk_nil (Own _ (0 + 1))))⟩
  ·obtain ⟨m, es, r1, r2, _⟩ := hM.out
   have e1 : seg.take i = seg := take_of_length_le (by omega)
   have e2 : seg.drop i = [] := drop_eq_nil_of_le (by omega)
   rw [e1] at t1 hS
   rw [e2, append_nil] at hS
   simp (disch := omega) only [t0, t1, t5, hlt, hsl, hlo, r1, r2, go_sem, reduceEqDiff, reduceCtorEq, ↓reduceIte]
   exact hK _ rs hM hS
theorem mi_ (x : ad_) (hb : ad_.sz x ≤ 1048576) : bh_ prog 42 [.agg (ad_.cells x)] (.agg (ad_.cells x)) (fun a => ∃ l_Subs, a = .agg [.val (.int .i64 x.Kind), .val (.string x.Name), .own l_Subs (x.Subs).length, .val (.string x.Value), .val (.int .i64 x.N)]) := by
 have hsz : ad_.sz x = ByteArray.size x.Name + (aI_ ByteArray.size) x.Subs + ByteArray.size x.Value := rfl
 refine dP_ mixed Tryz.func42 sW_ rfl (fun h0 => ?_)
 simp (disch := omega) only [rQ_, c42, ad_.cells, go_sem, reduceEqDiff, Nat.reduceAdd, reduceLeDiff, ↓reduceIte]
 refine kO_ x.Subs (by omega) _ _ (fun av1 hn1 hf1 hq1 => ?_)
 obtain ⟨l_Subs, rfl⟩ := hq1
 simp (disch := omega) only [go_sem, reduceEqDiff, Nat.reduceAdd, reduceLeDiff, ↓reduceIte, fS_]
 exact ⟨_, rfl, lQ_ (aJ_.val _ (aJ_.val _ (aJ_.cons ((hf1.b.keep fun l q1 q2 => u3_ (t := []) (by simp) q1 q2).widen (by first | omega | (simp; done) | (simp; omega)) (Nat.le_refl _)) (aJ_.val _ (aJ_.val _ (aJ_.nil _ _ _))) ⟨(by first | omega | (simp; done) | (simp; omega)), (by first | omega | (simp; done) | (simp; omega))⟩))), l_Subs, rfl⟩
theorem rf_ (x : ab_) : bv_ [.int, .int, .str, .list [.str], .str, .int] (ab_.cells x) := by
 simp only [ab_.cells, bv_, bs_]
 exact ⟨_, _, rfl, ⟨_, rfl⟩, ⟨_, _, rfl, ⟨_, rfl⟩, ⟨_, _, rfl, ⟨_, rfl⟩, ⟨_, _, rfl, ⟨_, rfl, ow_ _⟩, ⟨_, _, rfl, ⟨_, rfl⟩, ⟨_, _, rfl, ⟨_, rfl⟩, rfl⟩⟩⟩⟩⟩⟩
theorem mg_ (x : ab_) (hb : ab_.sz x ≤ 1048576) : bh_ prog 22 [.agg (ab_.cells x)] (.agg (ab_.cells x)) (fun a => ∃ l_Event_Subs, a = .agg [.val (.int .i64 x.Job), .val (.int .i64 x.Event.Kind), .val (.string x.Event.Name), .own l_Event_Subs (x.Event.Subs).length, .val (.string x.Event.Value), .val (.int .i64 x.Event.N)]) := by
 have hsz : ab_.sz x = ad_.sz x.Event := rfl
 refine dP_ mixed Tryz.func22 tj_ rfl (fun h0 => ?_)
 simp (disch := omega) only [rM_, c22, ab_.cells, go_sem, reduceEqDiff, Nat.reduceAdd, reduceLeDiff, ↓reduceIte]
 refine mi_ x.Event (by omega) _ _ (fun av1 hn1 hf1 hq1 => ?_)
 obtain ⟨l_Event_Subs, rfl⟩ := hq1
 simp (disch := omega) only [go_sem, reduceEqDiff, Nat.reduceAdd, ↓reduceIte, fS_]
 exact ⟨_, rfl, lQ_ (aJ_.val _ (aJ_.app ((hf1.b.unagg.keep fun l q1 q2 => u3_ (t := []) (by simp) q1 q2).widen (by first | omega | (simp; done) | (simp; omega)) (Nat.le_refl _)) (aJ_.nil _ _ _) ⟨(by first | omega | (simp; done) | (simp; omega)), (by first | omega | (simp; done) | (simp; omega))⟩)), l_Event_Subs, rfl⟩
theorem o5_ (xs : List ab_) : ∀ e ∈ xs.map ab_.cells, bv_ [.int, .int, .str, .list [.str], .str, .int] e := by
 intro e he
 obtain ⟨x, _, q⟩ := mem_map.1 he; subst q
 exact rf_ x
theorem oD_ (xs : List ab_) : aY_ (aU_ [.int, .int, .str, .list [.str], .str, .int]) (xs.map ab_.cells) ≤ 6 * (aI_ ab_.sz) xs := by
 refine gX_ (fun x => ?_) xs
 have c0 := nN_ (x.Event.Subs)
 have hsz0 : ∀ y : ab_, ab_.sz y = ad_.sz y.Event := fun _ => rfl
 have hsz1 : ∀ y : ad_, ad_.sz y = ByteArray.size y.Name + (aI_ ByteArray.size) y.Subs + ByteArray.size y.Value := fun _ => rfl
 simp only [hsz0, hsz1] at *
 simp only [ab_.cells, aU_, aV_]
 omega
theorem qk_ (xs : List ab_) (hb : (aI_ ab_.sz) xs ≤ 1048576) : aY_ (aU_ [.int, .int, .str, .list [.str], .str, .int]) (xs.map ab_.cells) ≤ 6 * 1048576 := by
 have := oD_ xs
 omega
theorem lk_ (xs : List ab_) (hb : (aI_ ab_.sz) xs ≤ 1048576) : bh_ prog 7 [.list 0 6 (xs.map ab_.cells)] (.list 0 6 (xs.map ab_.cells)) (fun a => ∃ l, a = .own l xs.length) := by
 have hx := Nat.le_trans (ci_ (f := ab_.sz) (xs := xs)) hb
 refine dP_ mixed Tryz.func7 wj_ rfl (fun h0 => ?_)
 simp (disch := omega) only [lf7, c7, go_sem, reduceCtorEq, ↓reduceIte]
 refine ⟨by omega, by omega, ?_⟩
 refine aB_ (fun n t h => ∃ (k : Nat) (done : List (List AV)) (rest : List Row), t 0 = .list 0 6 (xs.map ab_.cells) ∧ t 3 = .own h0.length xs.length ∧ t 4 = .val (.int .i64 k) ∧ h = h0 ++ ⟨49, 6, done ++ List.replicate (xs.length - k) ([.val (.int .i64 0), .val (.int .i64 0), .val (.string (txt [])), .val (.slice none 0 0), .val (.string (txt [])), .val (.int .i64 0)] : List AV)⟩ :: rest ∧ n = xs.length - k ∧ k ≤ xs.length ∧ done.length = k ∧ bm_ (h0.length + 1) h.length h done ((xs.take k).map ab_.cells)) xs.length ?_ ?_
 ·exact ⟨0, [], [], rfl, rfl, rfl, by simp, rfl, Nat.zero_le _, rfl, .nil _ _ _⟩
 ·rintro J hJ n t h ⟨k, done, rest, t0, t3, t4, rfl, rfl, hk, hd, hF⟩
  have fl : (done ++ List.replicate (xs.length - k) ([.val (.int .i64 0), .val (.int .i64 0), .val (.string (txt [])), .val (.slice none 0 0), .val (.string (txt [])), .val (.int .i64 0)] : List AV)).length = xs.length := by simp; omega
  by_cases hlt : k < xs.length
  ·have e1 : xs.length - k = (xs.length - (k + 1)) + 1 := by omega
   have fg : (done ++ List.replicate (xs.length - k) ([.val (.int .i64 0), .val (.int .i64 0), .val (.string (txt [])), .val (.slice none 0 0), .val (.string (txt [])), .val (.int .i64 0)] : List AV))[k]? = some [.val (.int .i64 0), .val (.int .i64 0), .val (.string (txt [])), .val (.slice none 0 0), .val (.string (txt [])), .val (.int .i64 0)] := by rw [getElem?_append_right (by omega), hd, Nat.sub_self, e1]; rfl
   have fs : ∀ c : List AV, (done ++ List.replicate (xs.length - k) ([.val (.int .i64 0), .val (.int .i64 0), .val (.string (txt [])), .val (.slice none 0 0), .val (.string (txt [])), .val (.int .i64 0)] : List AV)).set k c = (done ++ [c]) ++ List.replicate (xs.length - (k + 1)) ([.val (.int .i64 0), .val (.int .i64 0), .val (.string (txt [])), .val (.slice none 0 0), .val (.string (txt [])), .val (.int .i64 0)] : List AV) := by
    intro c; rw [set_append_right _ _ (by omega), hd, Nat.sub_self, e1, replicate_succ, set_cons_zero, append_assoc]; rfl
   simp (disch := omega) only [t0, t3, t4, hlt, ab_.cells, ar_, go_sem, reduceEqDiff, Nat.reduceAdd, reduceCtorEq, ↓reduceIte]
   refine mg_ xs[k] (by have := c2_ (f := ab_.sz) (getElem_mem hlt); omega) _ _ (fun av hn hf hq => ?_)
   obtain ⟨l_Event_Subs, rfl⟩ := hq
   simp (disch := omega) only [t4, hlt, fl, fg, fs, go_sem, reduceEqDiff, Nat.reduceAdd, ↓reduceIte, aq_]
   refine ⟨xs.length - (k + 1), by omega, hJ _ _ _ ⟨k + 1, done ++ [[.val (.int .i64 xs[k].Job), .val (.int .i64 xs[k].Event.Kind), .val (.string xs[k].Event.Name), .own l_Event_Subs (xs[k].Event.Subs).length, .val (.string xs[k].Event.Value), .val (.int .i64 xs[k].Event.N)]], rest ++ hn, by simp [upd, t0], by simp [upd, t3], by simp [upd], by simp, rfl, by omega, by simp [hd], ?_⟩⟩
   rw [take_succ_eq_append_getElem hlt, map_append]
   have hz := op_ (r' := ⟨49, 6, (done ++ [[.val (.int .i64 xs[k].Job), .val (.int .i64 xs[k].Event.Kind), .val (.string xs[k].Event.Name), .own l_Event_Subs (xs[k].Event.Subs).length, .val (.string xs[k].Event.Value), .val (.int .i64 xs[k].Event.N)]]) ++ List.replicate (xs.length - (k + 1)) ([.val (.int .i64 0), .val (.int .i64 0), .val (.string (txt [])), .val (.slice none 0 0), .val (.string (txt [])), .val (.int .i64 0)] : List AV)⟩) hF hf
   first | exact hz | simpa using hz
  ·simp (disch := omega) only [t0, t3, t4, hlt, ar_, go_sem, reduceEqDiff, reduceCtorEq, ↓reduceIte]
   have e1 : xs.length - k = 0 := by omega
   rw [e1, replicate_zero, append_nil, take_of_length_le (by omega)] at hF
   rw [e1, replicate_zero, append_nil]
   exact ⟨_, rfl, pU_ hF (by omega), _, rfl⟩
theorem my_ : gn_ prog 11 bf_ [.int, .int, .str, .list [.str], .str, .int] := by
 refine gn_.of ?_ ?_
 ·intro H k K hK
  refine bp_ mixed Tryz.func11 sX_ (co_ rfl ?_)
  simp (disch := omega) only [r0_, c11, go_sem]
  refine aB_ (fun n t h => t 0 = .val (.slice none 0 0) ∧ t 1 = .val (.int .i64 k) ∧ t 5 = .val (.int .i64 0) ∧ h = H) 0 ⟨rfl, rfl, rfl, rfl⟩ ?_
  rintro J hJ n t h ⟨t0, t1, t5, rfl⟩
  simp (disch := omega) only [t0, t1, t5, go_sem, reduceEqDiff, reduceCtorEq, Int.reduceLT, ↓reduceIte]
  exact hK
 ·intro l cnt lo hi E rs0 f H0 k K hT hl nd hrl hlo hhi hsh hk hb hK
  refine bp_ mixed Tryz.func11 sX_ (co_ rfl ?_)
  obtain ⟨seg, hseg⟩ : ∃ seg, seg = (rs0.take hi).drop lo := ⟨_, rfl⟩
  rw [← hseg] at hsh hb hK
  have hsl : hi - lo = seg.length := by rw [hseg, length_drop, length_take]; omega
  have hsn : seg.length ≤ aY_ (aU_ [.int, .int, .str, .list [.str], .str, .int]) seg := hM_ (c := aU_ [.int, .int, .str, .list [.str], .str, .int]) (fun e he => by have q := hsh e he; unfold bv_ at q; obtain ⟨c, r, rfl, _, _⟩ := q; simp only [aU_, aV_]; omega)
  simp (disch := omega) only [r0_, c11, go_sem]
  refine aB_ (fun n t h => ∃ (i : Nat) (rs : List (List AV)), t 0 = .sub l cnt lo hi ∧ t 1 = .val (.int .i64 (aE_ (a4_ bf_ [.int, .int, .str, .list [.str], .str, .int]) (seg.take i) k).2) ∧ t 5 = .val (.int .i64 i) ∧ MT H0 l E 6 cnt f rs h ∧ n = seg.length - i ∧ i ≤ seg.length ∧ rs.length = cnt ∧ (rs.take hi).drop lo = (aE_ (a4_ bf_ [.int, .int, .str, .list [.str], .str, .int]) (seg.take i) k).1 ++ seg.drop i) seg.length ⟨0, rs0, rfl, rfl, rfl, hT, rfl, Nat.zero_le _, hrl, hseg.symm⟩ ?_
  rintro J hJ n t h ⟨i, rs, t0, t1, t5, hM, rfl, hi1, hrl1, hS⟩
  by_cases hlt : i < seg.length
  ·have hA : (aE_ (a4_ bf_ [.int, .int, .str, .list [.str], .str, .int]) (seg.take i) k).1.length = i := by rw [gk_, length_take]; omega
   have hst := jV_ (g := (a4_ bf_ [.int, .int, .str, .list [.str], .str, .int])) (k := k) hlt
   have hcn := ij_ (c := aU_ [.int, .int, .str, .list [.str], .str, .int]) hlt
   have hzz : (aE_ (a4_ bf_ [.int, .int, .str, .list [.str], .str, .int]) (seg.take i) k).2 = k + aY_ (aU_ [.int, .int, .str, .list [.str], .str, .int]) (seg.take i) := dK_ (fun x _ k => dl_ [.int, .int, .str, .list [.str], .str, .int] x k) k
   have hj4 : (lo : Int) + (i : Int) < (hi : Int) := by omega
   have hj2 := (kH_ hS hA hlt).2.1
   have hsd := hsh _ (getElem_mem hlt)
   have hss : ∀ d, ((rs.set (lo + i) d).take hi).drop lo = ((aE_ (a4_ bf_ [.int, .int, .str, .list [.str], .str, .int]) (seg.take i) k).1 ++ [d]) ++ seg.drop (i + 1) := fun d => jO_ hS hA hlt
   clear hS hA
   generalize seg[i] = d at hst hcn hj2 hsd
   obtain ⟨z, hz⟩ : ∃ z, z = (aE_ (a4_ bf_ [.int, .int, .str, .list [.str], .str, .int]) (seg.take i) k).2 := ⟨_, rfl⟩
   rw [← hz] at hst hzz t1
   have hz0 : 0 ≤ z := by omega
   unfold bv_ at hsd
   obtain ⟨_, d0, hd0, hc0, hsd⟩ := hsd
   unfold bs_ at hc0
   obtain ⟨n0, rfl⟩ := hc0
   unfold bv_ at hsd
   obtain ⟨_, d1, hd1, hc1, hsd⟩ := hsd
   unfold bs_ at hc1
   obtain ⟨n1, rfl⟩ := hc1
   unfold bv_ at hsd
   obtain ⟨_, d2, hd2, hc2, hsd⟩ := hsd
   unfold bs_ at hc2
   obtain ⟨s2, rfl⟩ := hc2
   unfold bv_ at hsd
   obtain ⟨_, d3, hd3, hc3, hsd⟩ := hsd
   unfold bs_ at hc3
   obtain ⟨e3, rfl, hc3⟩ := hc3
   unfold bv_ at hsd
   obtain ⟨_, d4, hd4, hc4, hsd⟩ := hsd
   unfold bs_ at hc4
   obtain ⟨s4, rfl⟩ := hc4
   unfold bv_ at hsd
   obtain ⟨_, d5, hd5, hc5, hsd⟩ := hsd
   unfold bs_ at hc5
   obtain ⟨n5, rfl⟩ := hc5
   unfold bv_ at hsd
   subst hsd
   subst hd5
   subst hd4
   subst hd3
   subst hd2
   subst hd1
   subst hd0
   simp only [aU_, aV_, Nat.add_zero] at hcn
   obtain ⟨m, es, e, f2, r1, r2, r3, ho_0, nd2, hl2, hfin⟩ := hM.elem hl nd hj2
   obtain ⟨q0, rfl, ho_1⟩ := ho_0.inv_val
   obtain ⟨q1, rfl, ho_2⟩ := ho_1.inv_val
   obtain ⟨q2, rfl, ho_3⟩ := ho_2.inv_val
   obtain ⟨c3, q3, g3, w3, rfl, rfl, hw3, ho_4⟩ := ho_3.inv_cons
   obtain ⟨q4, rfl, ho_5⟩ := ho_4.inv_val
   obtain ⟨q5, rfl, ho_6⟩ := ho_5.inv_val
   obtain ⟨rfl, rfl⟩ := ho_6.inv_nil
   simp only [append_nil] at nd2 hl2
   have nd_3 : g3.Nodup := by first | exact nd2 | exact nd2.1 | exact nd2.2.1 | (simp_all; done)
   have hl_3 : l ∉ g3 := fun q => hl2 (by simp [q])
   have u1 : ∀ r, (h.set l r)[l]? = some r := fun r => getElem?_set_self (List.getElem?_eq_some_iff.1 r1).1
   have u2 : ∀ x, (es.set (lo + i) x)[lo + i]? = some x := fun x => getElem?_set_self (List.getElem?_eq_some_iff.1 r3).1
   simp (disch := omega) only [t0, t1, t5, hlt, hsl, hj4, hlo, r1, r2, r3, u1, u2, ls_, set_set, go_sem, reduceEqDiff, Nat.reduceAdd, reduceLeDiff, reduceCtorEq, ↓reduceIte]
   refine aa_.call (hv_ (z + 1 + 1) (by omega) (by omega) _) ?_
   simp (disch := omega) only [t0, t5, hj4, r2, u1, u2, ls_, set_set, go_sem, reduceEqDiff, Nat.reduceAdd, reduceLeDiff, reduceCtorEq, ↓reduceIte]
   refine lz_ _ c3 e3 g3 _ (z + 1 + 1 + 1) _ (hw3.keep fun x hx => ?_) nd_3 hc3 (by omega) (by omega) (fun H1 m1 x1 y1 v1 => ?_)
   ·first | rfl | exact getElem?_set_ne (by rintro rfl; exact hl_3 hx)
   have hq3 : (aE_ (a4_ bf_ [.str]) e3 (z + 1 + 1 + 1)).2 = z + 1 + 1 + 1 + (aY_ (aU_ [.str]) e3 : Nat) := dK_ (fun x _ k => dl_ _ x k) _
   have p1 := (y1 l hl_3).trans (by first | exact u1 _ | exact r1)
   have un1 : ∀ r, (H1.set l r)[l]? = some r := fun r => getElem?_set_self (List.getElem?_eq_some_iff.1 p1).1
   simp (disch := omega) only [t0, t5, go_sem, reduceEqDiff, reduceCtorEq, ↓reduceIte]
   refine aa_.call (hv_ ((aE_ (a4_ bf_ [.str]) e3 (z + 1 + 1 + 1)).2) (by omega) (by omega) _) ?_
   simp (disch := omega) only [t0, t5, hj4, r2, u2, ls_, set_set, p1, un1, go_sem, reduceEqDiff, Nat.reduceAdd, reduceLeDiff, reduceCtorEq, ↓reduceIte]
   refine ⟨seg.length - (i + 1), by omega, hJ _ _ _ ⟨i + 1, rs.set (lo + i) _, by simp [upd, t0], by rw [hst]; simp [upd, a4_, be_], by simp [upd], hfin _ _ _ ?_ (by first | exact un1 _ | exact p1) ?_ ?_, rfl, by omega, by simpa using hrl1, by rw [hst]; exact hss _⟩⟩
   ·simp only [ls_, x1]
   ·intro x hx
    simp only [mem_cons, not_or, append_nil] at hx
    try rw [getElem?_set_ne (Ne.symm hx.1)]
    rw [y1 x (by intro hq; first | (simp_all; done) | exact nd.2.2 _ hq _ hx rfl | exact nd.2.2 _ hx _ hq rfl | grind)]
    try rw [getElem?_set_ne (Ne.symm hx.1)]
   ·simp only [a4_, be_]
    exact ⟨_, (aA_.mk_val _ (aA_.mk_val _ (aA_.mk_val _ (aA_.mk_list (v1.keep fun x hx => by first | rfl | ((try rw [getElem?_set_ne (by rintro rfl; exact hl_3 hx)]))) (aA_.mk_val _ (aA_.mk_val _ (aA_.mk_nil (Own _ (0 + 1)))))))))⟩
  ·obtain ⟨m, es, r1, r2, _⟩ := hM.out
   have e1 : seg.take i = seg := take_of_length_le (by omega)
   have e2 : seg.drop i = [] := drop_eq_nil_of_le (by omega)
   rw [e1] at t1 hS
   rw [e2, append_nil] at hS
   simp (disch := omega) only [t0, t1, t5, hlt, hsl, hlo, r1, r2, go_sem, reduceEqDiff, reduceCtorEq, ↓reduceIte]
   exact hK _ rs hM hS
theorem ps_ (xs : List Int) : ∀ e ∈ xs.map bS_, bv_ [.int] e := by
 intro e he
 obtain ⟨x, _, q⟩ := mem_map.1 he; subst q
 simp only [bv_, bs_, bS_]
 exact ⟨_, _, rfl, ⟨_, rfl⟩, rfl⟩
theorem oo_ (xs : List Int) : aY_ (aU_ [.int]) (xs.map bS_) ≤ 1 * (aI_ (fun _ => 0)) xs := by
 refine gX_ (fun x => ?_) xs
 simp only [aU_, aV_]
 omega
theorem pg_ (xs : List Int) (hb : (aI_ (fun _ => 0)) xs ≤ 1048576) : aY_ (aU_ [.int]) (xs.map bS_) ≤ 1 * 1048576 := by
 have := oo_ xs
 omega
theorem mr_ : gn_ prog 17 bf_ [.int] := by
 refine gn_.of ?_ ?_
 ·intro H k K hK
  refine bp_ mixed Tryz.func17 sZ_ (co_ rfl ?_)
  simp (disch := omega) only [rW_, c17, go_sem]
  refine aB_ (fun n t h => t 0 = .val (.slice none 0 0) ∧ t 1 = .val (.int .i64 k) ∧ t 5 = .val (.int .i64 0) ∧ h = H) 0 ⟨rfl, rfl, rfl, rfl⟩ ?_
  rintro J hJ n t h ⟨t0, t1, t5, rfl⟩
  simp (disch := omega) only [t0, t1, t5, go_sem, reduceEqDiff, reduceCtorEq, Int.reduceLT, ↓reduceIte]
  exact hK
 ·intro l cnt lo hi E rs0 f H0 k K hT hl nd hrl hlo hhi hsh hk hb hK
  refine bp_ mixed Tryz.func17 sZ_ (co_ rfl ?_)
  obtain ⟨seg, hseg⟩ : ∃ seg, seg = (rs0.take hi).drop lo := ⟨_, rfl⟩
  rw [← hseg] at hsh hb hK
  have hsl : hi - lo = seg.length := by rw [hseg, length_drop, length_take]; omega
  have hsn : seg.length ≤ aY_ (aU_ [.int]) seg := hM_ (c := aU_ [.int]) (fun e he => by have q := hsh e he; unfold bv_ at q; obtain ⟨c, r, rfl, _, _⟩ := q; simp only [aU_, aV_]; omega)
  simp (disch := omega) only [rW_, c17, go_sem]
  refine aB_ (fun n t h => ∃ (i : Nat) (rs : List (List AV)), t 0 = .sub l cnt lo hi ∧ t 1 = .val (.int .i64 (aE_ (a4_ bf_ [.int]) (seg.take i) k).2) ∧ t 5 = .val (.int .i64 i) ∧ MT H0 l E 1 cnt f rs h ∧ n = seg.length - i ∧ i ≤ seg.length ∧ rs.length = cnt ∧ (rs.take hi).drop lo = (aE_ (a4_ bf_ [.int]) (seg.take i) k).1 ++ seg.drop i) seg.length ⟨0, rs0, rfl, rfl, rfl, hT, rfl, Nat.zero_le _, hrl, hseg.symm⟩ ?_
  rintro J hJ n t h ⟨i, rs, t0, t1, t5, hM, rfl, hi1, hrl1, hS⟩
  by_cases hlt : i < seg.length
  ·have hA : (aE_ (a4_ bf_ [.int]) (seg.take i) k).1.length = i := by rw [gk_, length_take]; omega
   have hst := jV_ (g := (a4_ bf_ [.int])) (k := k) hlt
   have hcn := ij_ (c := aU_ [.int]) hlt
   have hzz : (aE_ (a4_ bf_ [.int]) (seg.take i) k).2 = k + aY_ (aU_ [.int]) (seg.take i) := dK_ (fun x _ k => dl_ [.int] x k) k
   have hj4 : (lo : Int) + (i : Int) < (hi : Int) := by omega
   have hj2 := (kH_ hS hA hlt).2.1
   have hsd := hsh _ (getElem_mem hlt)
   have hss : ∀ d, ((rs.set (lo + i) d).take hi).drop lo = ((aE_ (a4_ bf_ [.int]) (seg.take i) k).1 ++ [d]) ++ seg.drop (i + 1) := fun d => jO_ hS hA hlt
   clear hS hA
   generalize seg[i] = d at hst hcn hj2 hsd
   obtain ⟨z, hz⟩ : ∃ z, z = (aE_ (a4_ bf_ [.int]) (seg.take i) k).2 := ⟨_, rfl⟩
   rw [← hz] at hst hzz t1
   have hz0 : 0 ≤ z := by omega
   unfold bv_ at hsd
   obtain ⟨_, d0, hd0, hc0, hsd⟩ := hsd
   unfold bs_ at hc0
   obtain ⟨n0, rfl⟩ := hc0
   unfold bv_ at hsd
   subst hsd
   subst hd0
   simp only [aU_, aV_, Nat.add_zero] at hcn
   obtain ⟨m, es, e, f2, r1, r2, r3, ho_0, nd2, hl2, hfin⟩ := hM.elem hl nd hj2
   obtain ⟨q0, rfl, ho_1⟩ := ho_0.inv_val
   obtain ⟨rfl, rfl⟩ := ho_1.inv_nil
   have u1 : ∀ r, (h.set l r)[l]? = some r := fun r => getElem?_set_self (List.getElem?_eq_some_iff.1 r1).1
   have u2 : ∀ x, (es.set (lo + i) x)[lo + i]? = some x := fun x => getElem?_set_self (List.getElem?_eq_some_iff.1 r3).1
   simp (disch := omega) only [t0, t1, t5, hlt, hsl, hj4, hlo, r1, r2, r3, go_sem, reduceEqDiff, reduceCtorEq, ↓reduceIte]
   refine ⟨seg.length - (i + 1), by omega, hJ _ _ _ ⟨i + 1, rs.set (lo + i) _, by simp [upd, t0], by rw [hst]; simp [upd, a4_, be_], by simp [upd], hfin _ _ _ ?_ (by first | exact u1 _ | exact u1 _) ?_ ?_, rfl, by omega, by simpa using hrl1, by rw [hst]; exact hss _⟩⟩
   ·simp only [ls_]
   ·intro x hx
    simp only [mem_cons, not_or] at hx
    try rw [getElem?_set_ne (Ne.symm hx.1)]
   ·simp only [a4_, be_]
    exact ⟨_, (aA_.mk_val _ (aA_.mk_nil (Own _ (0 + 1))))⟩
  ·obtain ⟨m, es, r1, r2, _⟩ := hM.out
   have e1 : seg.take i = seg := take_of_length_le (by omega)
   have e2 : seg.drop i = [] := drop_eq_nil_of_le (by omega)
   rw [e1] at t1 hS
   rw [e2, append_nil] at hS
   simp (disch := omega) only [t0, t1, t5, hlt, hsl, hlo, r1, r2, go_sem, reduceEqDiff, reduceCtorEq, ↓reduceIte]
   exact hK _ rs hM hS
theorem io_ (es : List (List AV)) (k : Int) (hsh : ∀ e ∈ es, bv_ [.int] e) (hk : 0 ≤ k) (hb : k + aY_ (aU_ [.int]) es ≤ 4611686018427387904) (h : List Row) : aa_ prog 18 [.list 0 1 es, .val (.int .i64 k)] h (.val (.int .i64 (cU_ (dt_ bf_ [.int]) es k))) := by
 refine ap_ mixed Tryz.func18 wG_ rfl rfl ?_ h
 have hsn : es.length ≤ aY_ (aU_ [.int]) es := hM_ (c := aU_ [.int]) (fun e he => by have q := hsh e he; unfold bv_ at q; obtain ⟨c, r, rfl, _, _⟩ := q; simp only [aU_, aV_]; omega)
 simp (disch := omega) only [uS_, c18, go_sem, Int.reduceNeg]
 refine aB_ (fun n t h => ∃ (i : Nat) (z : Int), t 0 = .list 0 1 es ∧ t 1 = .val (.int .i64 z) ∧ t 5 = .val (.int .i64 i) ∧ n = es.length - i ∧ i ≤ es.length ∧ 0 ≤ z ∧ z + aY_ (aU_ [.int]) (es.drop i) ≤ 4611686018427387904 ∧ cU_ (dt_ bf_ [.int]) es k = cU_ (dt_ bf_ [.int]) (es.drop i) z) es.length ⟨0, k, rfl, rfl, rfl, rfl, Nat.zero_le _, hk, hb, rfl⟩ ?_
 rintro J hJ n t h ⟨i, z, t0, t1, t5, rfl, hi, hz0, hzb, hS⟩
 by_cases hlt : i < es.length
 ·rw [sP_ hlt] at hS
  rw [uU_ hlt] at hzb
  have hsd := hsh _ (getElem_mem hlt)
  obtain ⟨d, hd⟩ : ∃ d, es[i] = d := ⟨_, rfl⟩
  rw [hd] at hS hzb hsd
  have hg : es[i]? = some d := by rw [getElem?_eq_getElem hlt, hd]
  unfold bv_ at hsd
  obtain ⟨_, d0, hd0, hc0, hsd⟩ := hsd
  unfold bs_ at hc0
  obtain ⟨n0, rfl⟩ := hc0
  unfold bv_ at hsd
  subst hsd
  subst hd0
  simp only [aU_, aV_, Nat.add_zero] at hzb
  simp (disch := omega) only [t0, t1, t5, hlt, hg, go_sem, reduceEqDiff, reduceCtorEq, Int.reduceNeg, ↓reduceIte]
  by_cases q0 : n0 = z
  case neg =>
   simp (disch := omega) only [q0, go_sem, Int.reduceNeg, ↓reduceIte]
   exact aC_ (by rw [hS]; exact (lS_ (by simp (disch := first | assumption | omega) only [qN_])).symm)
  simp (disch := omega) only [t1, t5, q0, go_sem, reduceEqDiff, Int.reduceNeg, ↓reduceIte]
  exact ⟨es.length - (i + 1), by omega, hJ _ _ _ ⟨i + 1, z + 1, by simp [upd, t0], by simp [upd], by simp [upd], rfl, by omega, by omega, by omega, by rw [hS]; exact ma_ (by simp (disch := first | assumption | omega) only [sT_, sj_]) (by omega)⟩⟩
 ·simp (disch := omega) only [t0, t1, t5, hlt, go_sem, reduceEqDiff, reduceCtorEq, Int.reduceNeg, ↓reduceIte]
  exact aC_ (by rw [hS, drop_eq_nil_of_le (by omega)]; rfl)
end Go.Proofs.YtddmifalinefnaaGreatDoor
