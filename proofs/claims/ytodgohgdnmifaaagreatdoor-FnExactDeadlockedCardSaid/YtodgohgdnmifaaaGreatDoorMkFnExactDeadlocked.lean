/-
 Contracts of functions. Conditions: as each theorem says.
-/
import Derived.Test.YtodgohgdnmifaaaGreatDoorGnFnExactDeadlocked
import Derived.Test.YtodgohgdnmifaaaGreatDoorAwC
import Derived.Test.YtodgohgdnmifaaaGreatDoorPlNum
namespace Go.Proofs.YtodgohgdnmifaaaGreatDoor
open Tryz (prog)
open Nat (reduceEqDiff reduceLeDiff)
open List
open Go.AW
set_option linter.unusedVariables false
set_option linter.unusedSimpArgs false
set_option maxRecDepth 4000
def aT_ (k : Int) : ByteArray := if k ≤ 0 then txt [109, 48] else txt (109 :: bu_ k.toNat)
theorem mE_ (u : Nat) (h : u ≠ 0) : bu_ u = bu_ (u / 10) ++ [UInt8.ofNat (48 + u % 10)] := by
 unfold bu_
 rw [if_neg h, Lib.decDigits]
 by_cases q : u < 10
 ·rw [dif_pos q, if_pos (by omega)]
  have : u % 10 = u := by omega
  rw [this]; rfl
 ·rw [dif_neg q, if_neg (by omega)]
theorem mi_ (u : Nat) (h : u ≤ 4611686018427387904) : (bu_ u).length ≤ 19 := by
 unfold bu_
 split
 ·simp
 ·rw [Go.Lib.decDigits_length]; exact fE_ 18 _ (by omega)
def c61 : LC :=
 .q [.o [.s 2 (.mov (.const (.string ⟨#[]⟩)))], .q [.o [.m 4 0, .bk 5 .leq false 4 0], .k 5 (.q [.o [.s 2 (.mov (.const (.string ⟨#[109, 48]⟩)))], .ret]) .skip], .o [.s 3 (.mov (.const (.string ⟨#[]⟩)))], .block 0 (.loop
 (.q [.q [.o [.m 6 0, .bk 7 .gtr false 6 0], .k 7 .skip (.exit 0)], .block 1 (.q [.o [.m 8 0, .bk 9 .rem false 8 10, .s 10 (.bin .add false (.const (.int .i64 48)) (.tmp 9)), .s 11 (.convInt .u8 (.tmp 10)), .s 12
 (.buildSlice 5 1 (.int .u8 0) 1 [(0, .tmp 11)]), .s 13 (.toStr (.tmp 12)), .m 14 3, .bb 15 .add false 13 14, .m 3 15], .o [.m 16 0, .bk 17 .quo false 16 10, .m 0 17]])])), .o [.m 18 3, .s 19 (.bin .add false (.const
 (.string ⟨#[109]⟩)) (.tmp 18)), .m 2 19], .ret]
def pw_ : LF := ⟨1, 20, c61, [.tmp 2]⟩
theorem ve_ : av_ prog Tryz.f61 pw_ := aq_
theorem gM_ (k : Int) (hk : 0 ≤ k) (hb : k ≤ 4611686018427387904) (h : List Row) : aa_ prog 61 [.val (.int .i64 k)] h (.val (.string (aT_ k))) := by
 refine am_ mixed Tryz.func61 ve_ rfl rfl ?_ h
 by_cases h0 : k ≤ 0
 ·simp (disch := omega) only [pw_, c61, h0, go_sem, reduceCtorEq, ↓reduceIte]
  exact bh_ (by rw [aT_, if_pos h0])
 ·simp (disch := omega) only [pw_, c61, h0, go_sem, reduceCtorEq, ↓reduceIte]
  have hL := mi_ k.toNat (by omega)
  refine ay_ (fun n t h => ∃ (u : Nat) (out : List UInt8), t 0 = .val (.int .i64 u) ∧ t 3 = .val (.string (txt out)) ∧ u = n ∧ u ≤ 4611686018427387904 ∧ bu_ k.toNat = bu_ u ++ out) k.toNat ⟨k.toNat, [], by simp [upd, fi_]; omega, rfl, rfl, by omega, by simp⟩ ?_
  rintro J hJ n t h ⟨u, out, t0, t3, rfl, hu, hS⟩
  by_cases hz : 0 < u
  ·have hm := mE_ u (by omega)
   have hlen := congrArg List.length hS
   simp only [la_] at hlen
   have hl1 : ([UInt8.ofNat (48 + u % 10)] : List UInt8).length + out.length ≤ 9223372036854775807 := by simp only [lc_, ln_]; omega
   have e1 : ((u : Int) % 10).toNat = u % 10 := by omega
   have e2 : (48 + (u : Int) % 10).toNat = 48 + u % 10 := by omega
   have e3 : ((u : Int) / 10) = ((u / 10 : Nat) : Int) := by omega
   simp (disch := omega) only [t0, t3, hz, e2, e3, jc_ _ _ _ hl1, go_sem, reduceEqDiff, reduceCtorEq, ↓reduceIte]
   exact ⟨u / 10, by omega, hJ _ _ _ ⟨u / 10, UInt8.ofNat (48 + u % 10) :: out, by simp [upd], by simp [upd], rfl, by omega, by rw [hS, hm, append_assoc]; rfl⟩⟩
  ·have hz' : u = 0 := by omega
   subst hz'
   have hlen := congrArg List.length hS
   simp only [la_] at hlen
   have hl2 : ([109] : List UInt8).length + out.length ≤ 9223372036854775807 := by simp only [lc_, ln_]; omega
   simp (disch := omega) only [t0, t3, jc_ _ _ _ hl2, go_sem, reduceEqDiff, Int.reduceLT, ↓reduceIte]
   exact bh_ (by rw [aT_, if_neg h0, hS]; rfl)
def c24 : LC :=
 .q [.o [.ki 4 0], .q [.o [.ki 5 0], .block 0 (.loop (.q [.q [.o [.m 6 5, .m 7 0, .ll 8 7, .bb 9 .lss false 6 8], .k 9 .skip (.exit 0)], .block 1 (.q [.o [.m 12 0, .m 13 5, .m 14 1, .c1 15 61 14, .ia 16 1 12 13, .st 1 16
 15], .o [.m 17 1, .bk 18 .add false 17 1, .m 1 18]]), .o [.m 10 5, .bk 11 .add false 10 1, .m 5 11]]))], .o [.m 19 1, .m 4 19], .ret]
def qQ_ : LF := ⟨2, 20, c24, [.tmp 4]⟩
theorem qS_ : av_ prog Tryz.f24 qQ_ := aq_
def c41 : LC :=
 .q [.o [.ki 4 0], .q [.o [.ki 5 0], .block 0 (.loop (.q [.q [.o [.m 6 5, .m 7 0, .ll 8 7, .bb 9 .lss false 6 8], .k 9 .skip (.exit 0)], .block 1 (.q [.o [.m 12 0, .m 13 5, .m 14 1, .ia 15 4 12 13, .fa 16 0 15, .st 1 16
 14], .o [.m 17 1, .bk 18 .add false 17 1, .m 1 18], .o [.m 19 0, .m 20 5, .m 21 1, .ia 22 4 19 20, .fa 23 1 22, .st 1 23 21], .o [.m 24 1, .bk 25 .add false 24 1, .m 1 25], .o [.m 26 0, .m 27 5, .m 28 1, .c1 29 61 28,
 .ia 30 4 26 27, .fa 31 2 30, .st 1 31 29], .o [.m 32 1, .bk 33 .add false 32 1, .m 1 33], .o [.m 34 0, .m 35 5, .ia 36 4 34 35, .fa 37 3 36, .ln 38 37, .m 39 1, .c2 40 24 38 39, .m 1 40]]), .o [.m 10 5, .bk 11 .add false
 10 1, .m 5 11]]))], .o [.m 41 1, .m 4 41], .ret]
def qK_ : LF := ⟨2, 42, c41, [.tmp 4]⟩
theorem q7_ : av_ prog Tryz.f41 qK_ := aq_
def c42 : LC :=
 .q [.o [.ki 4 0], .q [.o [.ki 5 0], .block 0 (.loop (.q [.q [.o [.m 6 5, .m 7 0, .ll 8 7, .bb 9 .lss false 6 8], .k 9 .skip (.exit 0)], .block 1 (.q [.o [.m 12 0, .m 13 5, .m 14 1, .ia 15 4 12 13, .fa 16 0 15, .st 1 16
 14], .o [.m 17 1, .bk 18 .add false 17 1, .m 1 18], .o [.m 19 0, .m 20 5, .m 21 1, .ia 22 4 19 20, .fa 23 1 22, .st 1 23 21], .o [.m 24 1, .bk 25 .add false 24 1, .m 1 25], .o [.m 26 0, .m 27 5, .m 28 1, .c1 29 61 28,
 .ia 30 4 26 27, .fa 31 2 30, .st 1 31 29], .o [.m 32 1, .bk 33 .add false 32 1, .m 1 33], .o [.m 34 0, .m 35 5, .ia 36 4 34 35, .fa 37 3 36, .ln 38 37, .m 39 1, .c2 40 24 38 39, .m 1 40]]), .o [.m 10 5, .bk 11 .add false
 10 1, .m 5 11]]))], .o [.m 41 1, .m 4 41], .ret]
def qB_ : LF := ⟨2, 42, c42, [.tmp 4]⟩
theorem ro_ : av_ prog Tryz.f42 qB_ := aq_
def c14 : LC :=
 .q [.o [.bx 2 32 0, .ki 4 0], .o [.fa 5 0 2, .ln 6 5, .m 7 1, .c2 8 41 6 7, .m 1 8], .o [.fa 9 1 2, .ln 10 9, .m 11 1, .c2 12 42 10 11, .m 1 12], .o [.m 13 1, .m 4 13], .ret]
def sQ_ : LF := ⟨2, 14, c14, [.tmp 4]⟩
theorem vd_ : av_ prog Tryz.f14 sQ_ := aq_
def c15 : LC :=
 .q [.o [.ki 4 0], .q [.o [.ki 5 0], .block 0 (.loop (.q [.q [.o [.m 6 5, .m 7 0, .ll 8 7, .bb 9 .lss false 6 8], .k 9 .skip (.exit 0)], .block 1 (.q [.o [.m 12 0, .m 13 5, .m 14 1, .ia 15 1 12 13, .st 1 15 14], .o [.m 16
 1, .bk 17 .add false 16 1, .m 1 17]]), .o [.m 10 5, .bk 11 .add false 10 1, .m 5 11]]))], .o [.m 18 1, .m 4 18], .ret]
def qA_ : LF := ⟨2, 19, c15, [.tmp 4]⟩
theorem ry_ : av_ prog Tryz.f15 qA_ := aq_
def c16 : LC :=
 .q [.o [.ki 4 0], .q [.o [.ki 5 0], .block 0 (.loop (.q [.q [.o [.m 6 5, .m 7 0, .ll 8 7, .bb 9 .lss false 6 8], .k 9 .skip (.exit 0)], .block 1 (.q [.q [.o [.m 12 0, .m 13 5, .ia 14 1 12 13, .ln 15 14, .m 16 1, .bb 17
 .neq false 15 16], .k 17 (.q [.o [.s 4 (.mov (.const (.int .i64 (-1))))], .ret]) .skip], .o [.m 18 1, .bk 19 .add false 18 1, .m 1 19]]), .o [.m 10 5, .bk 11 .add false 10 1, .m 5 11]]))], .o [.m 20 1, .m 4 20], .ret]
def tj_ : LF := ⟨2, 21, c16, [.tmp 4]⟩
theorem vH_ : av_ prog Tryz.f16 tj_ := aq_
theorem iO_ (xs : List ByteArray) : ∀ e ∈ xs.map az_, a8_ [.str] e := by
 intro e he
 obtain ⟨x, _, q⟩ := mem_map.1 he; subst q
 simp only [a8_, bc_, az_]
 exact ⟨_, _, rfl, ⟨_, rfl⟩, rfl⟩
theorem h8_ (xs : List ByteArray) : aS_ (aI_ [.str]) (xs.map az_) ≤ 1 * (as_ ByteArray.size) xs := by
 refine fs_ (fun x => ?_) xs
 simp only [aI_, aN_]
 omega
theorem gs_ (xs : List ByteArray) (hb : (as_ ByteArray.size) xs ≤ 1048576) : bb_ prog 21 [.list 0 1 (xs.map az_)] (.list 0 1 (xs.map az_)) (fun a => ∃ l, a = .own l xs.length) := by
 have hx := Nat.le_trans (bl_ (f := ByteArray.size) (xs := xs)) hb
 refine er_ mixed Tryz.func21 rg_ rfl (fun h0 => ?_)
 simp (disch := omega) only [py_, c21, go_sem, reduceCtorEq, ↓reduceIte]
 refine ⟨by omega, by omega, ?_⟩
 refine ay_ (fun n t h => ∃ k : Nat, t 0 = .list 0 1 (xs.map az_) ∧ t 3 = .own h0.length xs.length ∧ t 4 = .val (.int .i64 k) ∧ h = h0 ++ [⟨9, 1, bm_ (xs.map az_) [.val (.string (txt []))] k⟩] ∧ n = xs.length - k ∧ k ≤ xs.length) xs.length ?_ ?_
 ·exact ⟨0, rfl, rfl, rfl, by rw [fd_]; simp, rfl, Nat.zero_le _⟩
 ·rintro J hJ n t h ⟨k, t0, t3, t4, rfl, rfl, hk⟩
  have fl : (bm_ (xs.map az_) [.val (.string (txt []))] k).length = xs.length := by rw [ef_ _ _ (by simpa using hk)]; simp
  by_cases hlt : k < xs.length
  ·have fg : (bm_ (xs.map az_) [.val (.string (txt []))] k)[k]? = some [.val (.string (txt []))] := fO_ _ _ (by simpa using hlt)
   have fs := fh_ (xs.map az_) [.val (.string (txt []))] (az_ xs[k]) (k := k) (by rw [getElem?_map, getElem?_eq_getElem hlt]; rfl)
   simp (disch := omega) only [t0, t3, t4, hlt, fl, fg, aw_, go_sem, reduceEqDiff, reduceCtorEq, ↓reduceIte, aQ_]
   try simp (disch := omega) only [fs, go_sem]
   exact ⟨xs.length - (k + 1), by omega, hJ _ _ _ ⟨k + 1, by simp [upd, t0], by simp [upd, t3], by simp [upd], by simp [], rfl, by omega⟩⟩
  ·simp (disch := omega) only [t0, t3, t4, hlt, fl, aw_, go_sem, reduceEqDiff, reduceCtorEq, ↓reduceIte]
   have ff : bm_ (xs.map az_) [.val (.string (txt []))] k = xs.map az_ := fF_ _ _ (by simp; omega)
   rw [ff]
   refine ⟨_, rfl, (aP_.mkown (lo := h0.length + 1) (hi := h0.length + 1) (bi_.ofVals _ _ _ _ ?_) (by rw [cW_]; rfl) (by simp) (Nat.le_refl _) (Nat.lt_succ_self _) (Nat.le_refl _)).fresh, _, rfl⟩
   intro e he c hc
   obtain ⟨x, _, q⟩ := mem_map.1 he; subst q
   simp only [az_, mem_singleton] at hc
   exact ⟨_, hc⟩
theorem g3_ : eK_ prog 24 aT_ [.str] := by
 refine eK_.of ?_ ?_
 ·intro H k K hK
  refine ba_ mixed Tryz.func24 qS_ (bP_ rfl ?_)
  simp (disch := omega) only [qQ_, c24, go_sem]
  refine ay_ (fun n t h => t 0 = .val (.slice none 0 0) ∧ t 1 = .val (.int .i64 k) ∧ t 5 = .val (.int .i64 0) ∧ h = H) 0 ⟨rfl, rfl, rfl, rfl⟩ ?_
  rintro J hJ n t h ⟨t0, t1, t5, rfl⟩
  simp (disch := omega) only [t0, t1, t5, go_sem, reduceEqDiff, reduceCtorEq, Int.reduceLT, ↓reduceIte]
  exact hK
 ·intro l cnt lo hi E rs0 f H0 k K hT hl nd hrl hlo hhi hsh hk hb hK
  refine ba_ mixed Tryz.func24 qS_ (bP_ rfl ?_)
  obtain ⟨seg, hseg⟩ : ∃ seg, seg = (rs0.take hi).drop lo := ⟨_, rfl⟩
  rw [← hseg] at hsh hb hK
  have hsl : hi - lo = seg.length := by rw [hseg, length_drop, length_take]; omega
  have hsn : seg.length ≤ aS_ (aI_ [.str]) seg := fT_ (c := aI_ [.str]) (fun e he => by have q := hsh e he; unfold a8_ at q; obtain ⟨c, r, rfl, _, _⟩ := q; simp only [aI_, aN_]; omega)
  simp (disch := omega) only [qQ_, c24, go_sem]
  refine ay_ (fun n t h => ∃ (i : Nat) (rs : List (List AV)), t 0 = .sub l cnt lo hi ∧ t 1 = .val (.int .i64 (aA_ (aR_ aT_ [.str]) (seg.take i) k).2) ∧ t 5 = .val (.int .i64 i) ∧ MT H0 l E 1 cnt f rs h ∧ n = seg.length - i ∧ i ≤ seg.length ∧ rs.length = cnt ∧ (rs.take hi).drop lo = (aA_ (aR_ aT_ [.str]) (seg.take i) k).1 ++ seg.drop i) seg.length ⟨0, rs0, rfl, rfl, rfl, hT, rfl, Nat.zero_le _, hrl, hseg.symm⟩ ?_
  rintro J hJ n t h ⟨i, rs, t0, t1, t5, hM, rfl, hi1, hrl1, hS⟩
  by_cases hlt : i < seg.length
  ·have hA : (aA_ (aR_ aT_ [.str]) (seg.take i) k).1.length = i := by rw [eF_, length_take]; omega
   have hst := hG_ (g := (aR_ aT_ [.str])) (k := k) hlt
   have hcn := fY_ (c := aI_ [.str]) hlt
   have hzz : (aA_ (aR_ aT_ [.str]) (seg.take i) k).2 = k + aS_ (aI_ [.str]) (seg.take i) := cd_ (fun x _ k => cc_ [.str] x k) k
   have hj4 : (lo : Int) + (i : Int) < (hi : Int) := by omega
   have hj2 := (iA_ hS hA hlt).2.1
   have hsd := hsh _ (getElem_mem hlt)
   have hss : ∀ d, ((rs.set (lo + i) d).take hi).drop lo = ((aA_ (aR_ aT_ [.str]) (seg.take i) k).1 ++ [d]) ++ seg.drop (i + 1) := fun d => hI_ hS hA hlt
   clear hS hA
   generalize seg[i] = d at hst hcn hj2 hsd
   obtain ⟨z, hz⟩ : ∃ z, z = (aA_ (aR_ aT_ [.str]) (seg.take i) k).2 := ⟨_, rfl⟩
   rw [← hz] at hst hzz t1
   have hz0 : 0 ≤ z := by omega
   unfold a8_ at hsd
   obtain ⟨_, d0, hd0, hc0, hsd⟩ := hsd
   unfold bc_ at hc0
   obtain ⟨s0, rfl⟩ := hc0
   unfold a8_ at hsd
   subst hsd
   subst hd0
   simp only [aI_, aN_, Nat.add_zero] at hcn
   obtain ⟨m, es, e, f2, r1, r2, r3, ho_0, nd2, hl2, hfin⟩ := hM.elem hl nd hj2
   obtain ⟨q0, rfl, ho_1⟩ := ho_0.inv_val
   obtain ⟨rfl, rfl⟩ := ho_1.inv_nil
   have u1 : ∀ r, (h.set l r)[l]? = some r := fun r => getElem?_set_self (List.getElem?_eq_some_iff.1 r1).1
   have u2 : ∀ x, (es.set (lo + i) x)[lo + i]? = some x := fun x => getElem?_set_self (List.getElem?_eq_some_iff.1 r3).1
   simp (disch := omega) only [t0, t1, t5, hlt, hsl, hlo, r1, r2, go_sem, reduceEqDiff, reduceCtorEq, ↓reduceIte]
   refine aa_.call (gM_ (z) (by omega) (by omega) _) ?_
   simp (disch := omega) only [t1, t5, hj4, r1, r2, r3, go_sem, reduceEqDiff, ↓reduceIte]
   refine ⟨seg.length - (i + 1), by omega, hJ _ _ _ ⟨i + 1, rs.set (lo + i) _, by simp [upd, t0], by rw [hst]; simp [upd, aR_, aY_], by simp [upd], hfin _ _ _ ?_ (by first | exact u1 _ | exact u1 _) ?_ ?_, rfl, by omega, by simpa using hrl1, by rw [hst]; exact hss _⟩⟩
   ·simp only [ls_]
   ·intro x hx
    simp only [mem_cons, not_or] at hx
    try rw [getElem?_set_ne (Ne.symm hx.1)]
   ·simp only [aR_, aY_]
    exact ⟨_, (ax_.mk_val _ (ax_.mk_nil (Own _ (0 + 1))))⟩
  ·obtain ⟨m, es, r1, r2, _⟩ := hM.out
   have e1 : seg.take i = seg := take_of_length_le (by omega)
   have e2 : seg.drop i = [] := drop_eq_nil_of_le (by omega)
   rw [e1] at t1 hS
   rw [e2, append_nil] at hS
   simp (disch := omega) only [t0, t1, t5, hlt, hsl, hlo, r1, r2, go_sem, reduceEqDiff, reduceCtorEq, ↓reduceIte]
   exact hK _ rs hM hS
theorem pF_ (x : ab_) : a8_ [.int, .int, .str, .list [.str]] (ab_.cells x) := by
 simp only [ab_.cells, a8_, bc_]
 exact ⟨_, _, rfl, ⟨_, rfl⟩, ⟨_, _, rfl, ⟨_, rfl⟩, ⟨_, _, rfl, ⟨_, rfl⟩, ⟨_, _, rfl, ⟨_, rfl, iO_ _⟩, rfl⟩⟩⟩⟩
theorem lK_ (x : ab_) (hb : ab_.sz x ≤ 1048576) : bb_ prog 75 [.agg (ab_.cells x)] (.agg (ab_.cells x)) (fun a => ∃ l_Subs, a = .agg [.val (.int .i64 x.Job), .val (.int .i64 x.Count), .val (.string x.Name), .own l_Subs (x.Subs).length]) := by
 have hsz : ab_.sz x = ByteArray.size x.Name + (as_ ByteArray.size) x.Subs := rfl
 refine er_ mixed Tryz.func75 qU_ rfl (fun h0 => ?_)
 simp (disch := omega) only [pp_, c75, ab_.cells, go_sem, reduceEqDiff, Nat.reduceAdd, reduceLeDiff, ↓reduceIte]
 refine gs_ x.Subs (by omega) _ _ (fun av1 hn1 hf1 hq1 => ?_)
 obtain ⟨l_Subs, rfl⟩ := hq1
 simp (disch := omega) only [go_sem, reduceEqDiff, Nat.reduceAdd, ↓reduceIte, dE_]
 exact ⟨_, rfl, in_ (aH_.val _ (aH_.val _ (aH_.val _ (aH_.cons ((hf1.b.keep fun l q1 q2 => np_ (t := []) (by simp) q1 q2).widen (by first | omega | (simp; done) | (simp; omega)) (Nat.le_refl _)) (aH_.nil _ _ _) ⟨(by first | omega | (simp; done) | (simp; omega)), (by first | omega | (simp; done) | (simp; omega))⟩)))), l_Subs, rfl⟩
theorem oP_ (xs : List ab_) : ∀ e ∈ xs.map ab_.cells, a8_ [.int, .int, .str, .list [.str]] e := by
 intro e he
 obtain ⟨x, _, q⟩ := mem_map.1 he; subst q
 exact pF_ x
theorem nx_ (xs : List ab_) : aS_ (aI_ [.int, .int, .str, .list [.str]]) (xs.map ab_.cells) ≤ 4 * (as_ ab_.sz) xs := by
 refine fs_ (fun x => ?_) xs
 have c0 := h8_ (x.Subs)
 have hsz0 : ∀ y : ab_, ab_.sz y = ByteArray.size y.Name + (as_ ByteArray.size) y.Subs := fun _ => rfl
 simp only [hsz0] at *
 simp only [ab_.cells, aI_, aN_]
 omega
theorem ll_ (xs : List ab_) (hb : (as_ ab_.sz) xs ≤ 1048576) : bb_ prog 34 [.list 0 4 (xs.map ab_.cells)] (.list 0 4 (xs.map ab_.cells)) (fun a => ∃ l, a = .own l xs.length) := by
 have hx := Nat.le_trans (bl_ (f := ab_.sz) (xs := xs)) hb
 refine er_ mixed Tryz.func34 rD_ rfl (fun h0 => ?_)
 simp (disch := omega) only [qq_, c34, go_sem, reduceCtorEq, ↓reduceIte]
 refine ⟨by omega, by omega, ?_⟩
 refine ay_ (fun n t h => ∃ (k : Nat) (done : List (List AV)) (rest : List Row), t 0 = .list 0 4 (xs.map ab_.cells) ∧ t 3 = .own h0.length xs.length ∧ t 4 = .val (.int .i64 k) ∧ h = h0 ++ ⟨74, 4, done ++ List.replicate (xs.length - k) ([.val (.int .i64 0), .val (.int .i64 0), .val (.string (txt [])), .val (.slice none 0 0)] : List AV)⟩ :: rest ∧ n = xs.length - k ∧ k ≤ xs.length ∧ done.length = k ∧ bi_ (h0.length + 1) h.length h done ((xs.take k).map ab_.cells)) xs.length ?_ ?_
 ·exact ⟨0, [], [], rfl, rfl, rfl, by simp, rfl, Nat.zero_le _, rfl, .nil _ _ _⟩
 ·rintro J hJ n t h ⟨k, done, rest, t0, t3, t4, rfl, rfl, hk, hd, hF⟩
  have fl : (done ++ List.replicate (xs.length - k) ([.val (.int .i64 0), .val (.int .i64 0), .val (.string (txt [])), .val (.slice none 0 0)] : List AV)).length = xs.length := by simp; omega
  by_cases hlt : k < xs.length
  ·have e1 : xs.length - k = (xs.length - (k + 1)) + 1 := by omega
   have fg : (done ++ List.replicate (xs.length - k) ([.val (.int .i64 0), .val (.int .i64 0), .val (.string (txt [])), .val (.slice none 0 0)] : List AV))[k]? = some [.val (.int .i64 0), .val (.int .i64 0), .val (.string (txt [])), .val (.slice none 0 0)] := by rw [getElem?_append_right (by omega), hd, Nat.sub_self, e1]; rfl
   have fs : ∀ c : List AV, (done ++ List.replicate (xs.length - k) ([.val (.int .i64 0), .val (.int .i64 0), .val (.string (txt [])), .val (.slice none 0 0)] : List AV)).set k c = (done ++ [c]) ++ List.replicate (xs.length - (k + 1)) ([.val (.int .i64 0), .val (.int .i64 0), .val (.string (txt [])), .val (.slice none 0 0)] : List AV) := by
    intro c; rw [set_append_right _ _ (by omega), hd, Nat.sub_self, e1, replicate_succ, set_cons_zero, append_assoc]; rfl
   simp (disch := omega) only [t0, t3, t4, hlt, ab_.cells, aw_, go_sem, reduceEqDiff, Nat.reduceAdd, reduceCtorEq, ↓reduceIte]
   refine lK_ xs[k] (by have := cZ_ (f := ab_.sz) (getElem_mem hlt); omega) _ _ (fun av hn hf hq => ?_)
   obtain ⟨l_Subs, rfl⟩ := hq
   simp (disch := omega) only [t4, hlt, fl, fg, fs, go_sem, reduceEqDiff, Nat.reduceAdd, ↓reduceIte, aQ_]
   refine ⟨xs.length - (k + 1), by omega, hJ _ _ _ ⟨k + 1, done ++ [[.val (.int .i64 xs[k].Job), .val (.int .i64 xs[k].Count), .val (.string xs[k].Name), .own l_Subs (xs[k].Subs).length]], rest ++ hn, by simp [upd, t0], by simp [upd, t3], by simp [upd], by simp, rfl, by omega, by simp [hd], ?_⟩⟩
   rw [take_succ_eq_append_getElem hlt, map_append]
   have hz := iN_ (r' := ⟨74, 4, (done ++ [[.val (.int .i64 xs[k].Job), .val (.int .i64 xs[k].Count), .val (.string xs[k].Name), .own l_Subs (xs[k].Subs).length]]) ++ List.replicate (xs.length - (k + 1)) ([.val (.int .i64 0), .val (.int .i64 0), .val (.string (txt [])), .val (.slice none 0 0)] : List AV)⟩) hF hf
   first | exact hz | simpa using hz
  ·simp (disch := omega) only [t0, t3, t4, hlt, aw_, go_sem, reduceEqDiff, reduceCtorEq, ↓reduceIte]
   have e1 : xs.length - k = 0 := by omega
   rw [e1, replicate_zero, append_nil, take_of_length_le (by omega)] at hF
   rw [e1, replicate_zero, append_nil]
   exact ⟨_, rfl, jQ_ hF (by omega), _, rfl⟩
theorem mo_ : eK_ prog 41 aT_ [.int, .int, .str, .list [.str]] := by
 refine eK_.of ?_ ?_
 ·intro H k K hK
  refine ba_ mixed Tryz.func41 q7_ (bP_ rfl ?_)
  simp (disch := omega) only [qK_, c41, go_sem]
  refine ay_ (fun n t h => t 0 = .val (.slice none 0 0) ∧ t 1 = .val (.int .i64 k) ∧ t 5 = .val (.int .i64 0) ∧ h = H) 0 ⟨rfl, rfl, rfl, rfl⟩ ?_
  rintro J hJ n t h ⟨t0, t1, t5, rfl⟩
  simp (disch := omega) only [t0, t1, t5, go_sem, reduceEqDiff, reduceCtorEq, Int.reduceLT, ↓reduceIte]
  exact hK
 ·intro l cnt lo hi E rs0 f H0 k K hT hl nd hrl hlo hhi hsh hk hb hK
  refine ba_ mixed Tryz.func41 q7_ (bP_ rfl ?_)
  obtain ⟨seg, hseg⟩ : ∃ seg, seg = (rs0.take hi).drop lo := ⟨_, rfl⟩
  rw [← hseg] at hsh hb hK
  have hsl : hi - lo = seg.length := by rw [hseg, length_drop, length_take]; omega
  have hsn : seg.length ≤ aS_ (aI_ [.int, .int, .str, .list [.str]]) seg := fT_ (c := aI_ [.int, .int, .str, .list [.str]]) (fun e he => by have q := hsh e he; unfold a8_ at q; obtain ⟨c, r, rfl, _, _⟩ := q; simp only [aI_, aN_]; omega)
  simp (disch := omega) only [qK_, c41, go_sem]
  refine ay_ (fun n t h => ∃ (i : Nat) (rs : List (List AV)), t 0 = .sub l cnt lo hi ∧ t 1 = .val (.int .i64 (aA_ (aR_ aT_ [.int, .int, .str, .list [.str]]) (seg.take i) k).2) ∧ t 5 = .val (.int .i64 i) ∧ MT H0 l E 4 cnt f rs h ∧ n = seg.length - i ∧ i ≤ seg.length ∧ rs.length = cnt ∧ (rs.take hi).drop lo = (aA_ (aR_ aT_ [.int, .int, .str, .list [.str]]) (seg.take i) k).1 ++ seg.drop i) seg.length ⟨0, rs0, rfl, rfl, rfl, hT, rfl, Nat.zero_le _, hrl, hseg.symm⟩ ?_
  rintro J hJ n t h ⟨i, rs, t0, t1, t5, hM, rfl, hi1, hrl1, hS⟩
  by_cases hlt : i < seg.length
  ·have hA : (aA_ (aR_ aT_ [.int, .int, .str, .list [.str]]) (seg.take i) k).1.length = i := by rw [eF_, length_take]; omega
   have hst := hG_ (g := (aR_ aT_ [.int, .int, .str, .list [.str]])) (k := k) hlt
   have hcn := fY_ (c := aI_ [.int, .int, .str, .list [.str]]) hlt
   have hzz : (aA_ (aR_ aT_ [.int, .int, .str, .list [.str]]) (seg.take i) k).2 = k + aS_ (aI_ [.int, .int, .str, .list [.str]]) (seg.take i) := cd_ (fun x _ k => cc_ [.int, .int, .str, .list [.str]] x k) k
   have hj4 : (lo : Int) + (i : Int) < (hi : Int) := by omega
   have hj2 := (iA_ hS hA hlt).2.1
   have hsd := hsh _ (getElem_mem hlt)
   have hss : ∀ d, ((rs.set (lo + i) d).take hi).drop lo = ((aA_ (aR_ aT_ [.int, .int, .str, .list [.str]]) (seg.take i) k).1 ++ [d]) ++ seg.drop (i + 1) := fun d => hI_ hS hA hlt
   clear hS hA
   generalize seg[i] = d at hst hcn hj2 hsd
   obtain ⟨z, hz⟩ : ∃ z, z = (aA_ (aR_ aT_ [.int, .int, .str, .list [.str]]) (seg.take i) k).2 := ⟨_, rfl⟩
   rw [← hz] at hst hzz t1
   have hz0 : 0 ≤ z := by omega
   unfold a8_ at hsd
   obtain ⟨_, d0, hd0, hc0, hsd⟩ := hsd
   unfold bc_ at hc0
   obtain ⟨n0, rfl⟩ := hc0
   unfold a8_ at hsd
   obtain ⟨_, d1, hd1, hc1, hsd⟩ := hsd
   unfold bc_ at hc1
   obtain ⟨n1, rfl⟩ := hc1
   unfold a8_ at hsd
   obtain ⟨_, d2, hd2, hc2, hsd⟩ := hsd
   unfold bc_ at hc2
   obtain ⟨s2, rfl⟩ := hc2
   unfold a8_ at hsd
   obtain ⟨_, d3, hd3, hc3, hsd⟩ := hsd
   unfold bc_ at hc3
   obtain ⟨e3, rfl, hc3⟩ := hc3
   unfold a8_ at hsd
   subst hsd
   subst hd3
   subst hd2
   subst hd1
   subst hd0
   simp only [aI_, aN_, Nat.add_zero] at hcn
   obtain ⟨m, es, e, f2, r1, r2, r3, ho_0, nd2, hl2, hfin⟩ := hM.elem hl nd hj2
   obtain ⟨q0, rfl, ho_1⟩ := ho_0.inv_val
   obtain ⟨q1, rfl, ho_2⟩ := ho_1.inv_val
   obtain ⟨q2, rfl, ho_3⟩ := ho_2.inv_val
   obtain ⟨c3, q3, g3, w3, rfl, rfl, hw3, ho_4⟩ := ho_3.inv_cons
   obtain ⟨rfl, rfl⟩ := ho_4.inv_nil
   simp only [append_nil] at nd2 hl2
   have nd_3 : g3.Nodup := by first | exact nd2 | exact nd2.1 | exact nd2.2.1 | (simp_all; done)
   have hl_3 : l ∉ g3 := fun q => hl2 (by simp [q])
   have u1 : ∀ r, (h.set l r)[l]? = some r := fun r => getElem?_set_self (List.getElem?_eq_some_iff.1 r1).1
   have u2 : ∀ x, (es.set (lo + i) x)[lo + i]? = some x := fun x => getElem?_set_self (List.getElem?_eq_some_iff.1 r3).1
   simp (disch := omega) only [t0, t1, t5, hlt, hsl, hj4, hlo, r1, r2, r3, u1, u2, ls_, set_set, go_sem, reduceEqDiff, Nat.reduceAdd, reduceLeDiff, reduceCtorEq, ↓reduceIte]
   refine aa_.call (gM_ (z + 1 + 1) (by omega) (by omega) _) ?_
   simp (disch := omega) only [t0, t5, hj4, r2, u1, u2, ls_, set_set, go_sem, reduceEqDiff, Nat.reduceAdd, reduceLeDiff, reduceCtorEq, ↓reduceIte]
   refine g3_ _ c3 e3 g3 _ (z + 1 + 1 + 1) _ (hw3.keep fun x hx => ?_) nd_3 hc3 (by omega) (by omega) (fun H1 m1 x1 y1 v1 => ?_)
   ·first | rfl | exact getElem?_set_ne (by rintro rfl; exact hl_3 hx)
   have hq3 : (aA_ (aR_ aT_ [.str]) e3 (z + 1 + 1 + 1)).2 = z + 1 + 1 + 1 + (aS_ (aI_ [.str]) e3 : Nat) := cd_ (fun x _ k => cc_ _ x k) _
   have p1 := (y1 l hl_3).trans (by first | exact u1 _ | exact r1)
   have un1 : ∀ r, (H1.set l r)[l]? = some r := fun r => getElem?_set_self (List.getElem?_eq_some_iff.1 p1).1
   simp (disch := omega) only [t5, go_sem, reduceEqDiff, ↓reduceIte]
   refine ⟨seg.length - (i + 1), by omega, hJ _ _ _ ⟨i + 1, rs.set (lo + i) _, by simp [upd, t0], by rw [hst]; simp [upd, aR_, aY_], by simp [upd], hfin _ _ _ ?_ (by first | exact un1 _ | exact p1) ?_ ?_, rfl, by omega, by simpa using hrl1, by rw [hst]; exact hss _⟩⟩
   ·simp only [ls_, x1]
   ·intro x hx
    simp only [mem_cons, not_or, append_nil] at hx
    try rw [getElem?_set_ne (Ne.symm hx.1)]
    rw [y1 x (by intro hq; first | (simp_all; done) | exact nd.2.2 _ hq _ hx rfl | exact nd.2.2 _ hx _ hq rfl | grind)]
    try rw [getElem?_set_ne (Ne.symm hx.1)]
   ·simp only [aR_, aY_]
    exact ⟨_, (ax_.mk_val _ (ax_.mk_val _ (ax_.mk_val _ (ax_.mk_list (v1.keep fun x hx => by first | rfl | ((try rw [getElem?_set_ne (by rintro rfl; exact hl_3 hx)]))) (ax_.mk_nil (Own _ (0 + 1)))))))⟩
  ·obtain ⟨m, es, r1, r2, _⟩ := hM.out
   have e1 : seg.take i = seg := take_of_length_le (by omega)
   have e2 : seg.drop i = [] := drop_eq_nil_of_le (by omega)
   rw [e1] at t1 hS
   rw [e2, append_nil] at hS
   simp (disch := omega) only [t0, t1, t5, hlt, hsl, hlo, r1, r2, go_sem, reduceEqDiff, reduceCtorEq, ↓reduceIte]
   exact hK _ rs hM hS
theorem sf_ (x : af_) : a8_ [.int, .int, .str, .list [.str]] (af_.cells x) := by
 simp only [af_.cells, a8_, bc_]
 exact ⟨_, _, rfl, ⟨_, rfl⟩, ⟨_, _, rfl, ⟨_, rfl⟩, ⟨_, _, rfl, ⟨_, rfl⟩, ⟨_, _, rfl, ⟨_, rfl, iO_ _⟩, rfl⟩⟩⟩⟩
theorem m9_ (x : af_) (hb : af_.sz x ≤ 1048576) : bb_ prog 76 [.agg (af_.cells x)] (.agg (af_.cells x)) (fun a => ∃ l_Subs, a = .agg [.val (.int .i64 x.Job), .val (.int .i64 x.Until), .val (.string x.Name), .own l_Subs (x.Subs).length]) := by
 have hsz : af_.sz x = ByteArray.size x.Name + (as_ ByteArray.size) x.Subs := rfl
 refine er_ mixed Tryz.func76 rn_ rfl (fun h0 => ?_)
 simp (disch := omega) only [pI_, c76, af_.cells, go_sem, reduceEqDiff, Nat.reduceAdd, reduceLeDiff, ↓reduceIte]
 refine gs_ x.Subs (by omega) _ _ (fun av1 hn1 hf1 hq1 => ?_)
 obtain ⟨l_Subs, rfl⟩ := hq1
 simp (disch := omega) only [go_sem, reduceEqDiff, Nat.reduceAdd, ↓reduceIte, dE_]
 exact ⟨_, rfl, in_ (aH_.val _ (aH_.val _ (aH_.val _ (aH_.cons ((hf1.b.keep fun l q1 q2 => np_ (t := []) (by simp) q1 q2).widen (by first | omega | (simp; done) | (simp; omega)) (Nat.le_refl _)) (aH_.nil _ _ _) ⟨(by first | omega | (simp; done) | (simp; omega)), (by first | omega | (simp; done) | (simp; omega))⟩)))), l_Subs, rfl⟩
theorem pG_ (xs : List af_) : ∀ e ∈ xs.map af_.cells, a8_ [.int, .int, .str, .list [.str]] e := by
 intro e he
 obtain ⟨x, _, q⟩ := mem_map.1 he; subst q
 exact sf_ x
theorem pm_ (xs : List af_) : aS_ (aI_ [.int, .int, .str, .list [.str]]) (xs.map af_.cells) ≤ 4 * (as_ af_.sz) xs := by
 refine fs_ (fun x => ?_) xs
 have c0 := h8_ (x.Subs)
 have hsz0 : ∀ y : af_, af_.sz y = ByteArray.size y.Name + (as_ ByteArray.size) y.Subs := fun _ => rfl
 simp only [hsz0] at *
 simp only [af_.cells, aI_, aN_]
 omega
theorem lF_ (xs : List af_) (hb : (as_ af_.sz) xs ≤ 1048576) : bb_ prog 35 [.list 0 4 (xs.map af_.cells)] (.list 0 4 (xs.map af_.cells)) (fun a => ∃ l, a = .own l xs.length) := by
 have hx := Nat.le_trans (bl_ (f := af_.sz) (xs := xs)) hb
 refine er_ mixed Tryz.func35 rs_ rfl (fun h0 => ?_)
 simp (disch := omega) only [p8_, c35, go_sem, reduceCtorEq, ↓reduceIte]
 refine ⟨by omega, by omega, ?_⟩
 refine ay_ (fun n t h => ∃ (k : Nat) (done : List (List AV)) (rest : List Row), t 0 = .list 0 4 (xs.map af_.cells) ∧ t 3 = .own h0.length xs.length ∧ t 4 = .val (.int .i64 k) ∧ h = h0 ++ ⟨64, 4, done ++ List.replicate (xs.length - k) ([.val (.int .i64 0), .val (.int .i64 0), .val (.string (txt [])), .val (.slice none 0 0)] : List AV)⟩ :: rest ∧ n = xs.length - k ∧ k ≤ xs.length ∧ done.length = k ∧ bi_ (h0.length + 1) h.length h done ((xs.take k).map af_.cells)) xs.length ?_ ?_
 ·exact ⟨0, [], [], rfl, rfl, rfl, by simp, rfl, Nat.zero_le _, rfl, .nil _ _ _⟩
 ·rintro J hJ n t h ⟨k, done, rest, t0, t3, t4, rfl, rfl, hk, hd, hF⟩
  have fl : (done ++ List.replicate (xs.length - k) ([.val (.int .i64 0), .val (.int .i64 0), .val (.string (txt [])), .val (.slice none 0 0)] : List AV)).length = xs.length := by simp; omega
  by_cases hlt : k < xs.length
  ·have e1 : xs.length - k = (xs.length - (k + 1)) + 1 := by omega
   have fg : (done ++ List.replicate (xs.length - k) ([.val (.int .i64 0), .val (.int .i64 0), .val (.string (txt [])), .val (.slice none 0 0)] : List AV))[k]? = some [.val (.int .i64 0), .val (.int .i64 0), .val (.string (txt [])), .val (.slice none 0 0)] := by rw [getElem?_append_right (by omega), hd, Nat.sub_self, e1]; rfl
   have fs : ∀ c : List AV, (done ++ List.replicate (xs.length - k) ([.val (.int .i64 0), .val (.int .i64 0), .val (.string (txt [])), .val (.slice none 0 0)] : List AV)).set k c = (done ++ [c]) ++ List.replicate (xs.length - (k + 1)) ([.val (.int .i64 0), .val (.int .i64 0), .val (.string (txt [])), .val (.slice none 0 0)] : List AV) := by
    intro c; rw [set_append_right _ _ (by omega), hd, Nat.sub_self, e1, replicate_succ, set_cons_zero, append_assoc]; rfl
   simp (disch := omega) only [t0, t3, t4, hlt, af_.cells, aw_, go_sem, reduceEqDiff, Nat.reduceAdd, reduceCtorEq, ↓reduceIte]
   refine m9_ xs[k] (by have := cZ_ (f := af_.sz) (getElem_mem hlt); omega) _ _ (fun av hn hf hq => ?_)
   obtain ⟨l_Subs, rfl⟩ := hq
   simp (disch := omega) only [t4, hlt, fl, fg, fs, go_sem, reduceEqDiff, Nat.reduceAdd, ↓reduceIte, aQ_]
   refine ⟨xs.length - (k + 1), by omega, hJ _ _ _ ⟨k + 1, done ++ [[.val (.int .i64 xs[k].Job), .val (.int .i64 xs[k].Until), .val (.string xs[k].Name), .own l_Subs (xs[k].Subs).length]], rest ++ hn, by simp [upd, t0], by simp [upd, t3], by simp [upd], by simp, rfl, by omega, by simp [hd], ?_⟩⟩
   rw [take_succ_eq_append_getElem hlt, map_append]
   have hz := iN_ (r' := ⟨64, 4, (done ++ [[.val (.int .i64 xs[k].Job), .val (.int .i64 xs[k].Until), .val (.string xs[k].Name), .own l_Subs (xs[k].Subs).length]]) ++ List.replicate (xs.length - (k + 1)) ([.val (.int .i64 0), .val (.int .i64 0), .val (.string (txt [])), .val (.slice none 0 0)] : List AV)⟩) hF hf
   first | exact hz | simpa using hz
  ·simp (disch := omega) only [t0, t3, t4, hlt, aw_, go_sem, reduceEqDiff, reduceCtorEq, ↓reduceIte]
   have e1 : xs.length - k = 0 := by omega
   rw [e1, replicate_zero, append_nil, take_of_length_le (by omega)] at hF
   rw [e1, replicate_zero, append_nil]
   exact ⟨_, rfl, jQ_ hF (by omega), _, rfl⟩
theorem mO_ : eK_ prog 42 aT_ [.int, .int, .str, .list [.str]] := by
 refine eK_.of ?_ ?_
 ·intro H k K hK
  refine ba_ mixed Tryz.func42 ro_ (bP_ rfl ?_)
  simp (disch := omega) only [qB_, c42, go_sem]
  refine ay_ (fun n t h => t 0 = .val (.slice none 0 0) ∧ t 1 = .val (.int .i64 k) ∧ t 5 = .val (.int .i64 0) ∧ h = H) 0 ⟨rfl, rfl, rfl, rfl⟩ ?_
  rintro J hJ n t h ⟨t0, t1, t5, rfl⟩
  simp (disch := omega) only [t0, t1, t5, go_sem, reduceEqDiff, reduceCtorEq, Int.reduceLT, ↓reduceIte]
  exact hK
 ·intro l cnt lo hi E rs0 f H0 k K hT hl nd hrl hlo hhi hsh hk hb hK
  refine ba_ mixed Tryz.func42 ro_ (bP_ rfl ?_)
  obtain ⟨seg, hseg⟩ : ∃ seg, seg = (rs0.take hi).drop lo := ⟨_, rfl⟩
  rw [← hseg] at hsh hb hK
  have hsl : hi - lo = seg.length := by rw [hseg, length_drop, length_take]; omega
  have hsn : seg.length ≤ aS_ (aI_ [.int, .int, .str, .list [.str]]) seg := fT_ (c := aI_ [.int, .int, .str, .list [.str]]) (fun e he => by have q := hsh e he; unfold a8_ at q; obtain ⟨c, r, rfl, _, _⟩ := q; simp only [aI_, aN_]; omega)
  simp (disch := omega) only [qB_, c42, go_sem]
  refine ay_ (fun n t h => ∃ (i : Nat) (rs : List (List AV)), t 0 = .sub l cnt lo hi ∧ t 1 = .val (.int .i64 (aA_ (aR_ aT_ [.int, .int, .str, .list [.str]]) (seg.take i) k).2) ∧ t 5 = .val (.int .i64 i) ∧ MT H0 l E 4 cnt f rs h ∧ n = seg.length - i ∧ i ≤ seg.length ∧ rs.length = cnt ∧ (rs.take hi).drop lo = (aA_ (aR_ aT_ [.int, .int, .str, .list [.str]]) (seg.take i) k).1 ++ seg.drop i) seg.length ⟨0, rs0, rfl, rfl, rfl, hT, rfl, Nat.zero_le _, hrl, hseg.symm⟩ ?_
  rintro J hJ n t h ⟨i, rs, t0, t1, t5, hM, rfl, hi1, hrl1, hS⟩
  by_cases hlt : i < seg.length
  ·have hA : (aA_ (aR_ aT_ [.int, .int, .str, .list [.str]]) (seg.take i) k).1.length = i := by rw [eF_, length_take]; omega
   have hst := hG_ (g := (aR_ aT_ [.int, .int, .str, .list [.str]])) (k := k) hlt
   have hcn := fY_ (c := aI_ [.int, .int, .str, .list [.str]]) hlt
   have hzz : (aA_ (aR_ aT_ [.int, .int, .str, .list [.str]]) (seg.take i) k).2 = k + aS_ (aI_ [.int, .int, .str, .list [.str]]) (seg.take i) := cd_ (fun x _ k => cc_ [.int, .int, .str, .list [.str]] x k) k
   have hj4 : (lo : Int) + (i : Int) < (hi : Int) := by omega
   have hj2 := (iA_ hS hA hlt).2.1
   have hsd := hsh _ (getElem_mem hlt)
   have hss : ∀ d, ((rs.set (lo + i) d).take hi).drop lo = ((aA_ (aR_ aT_ [.int, .int, .str, .list [.str]]) (seg.take i) k).1 ++ [d]) ++ seg.drop (i + 1) := fun d => hI_ hS hA hlt
   clear hS hA
   generalize seg[i] = d at hst hcn hj2 hsd
   obtain ⟨z, hz⟩ : ∃ z, z = (aA_ (aR_ aT_ [.int, .int, .str, .list [.str]]) (seg.take i) k).2 := ⟨_, rfl⟩
   rw [← hz] at hst hzz t1
   have hz0 : 0 ≤ z := by omega
   unfold a8_ at hsd
   obtain ⟨_, d0, hd0, hc0, hsd⟩ := hsd
   unfold bc_ at hc0
   obtain ⟨n0, rfl⟩ := hc0
   unfold a8_ at hsd
   obtain ⟨_, d1, hd1, hc1, hsd⟩ := hsd
   unfold bc_ at hc1
   obtain ⟨n1, rfl⟩ := hc1
   unfold a8_ at hsd
   obtain ⟨_, d2, hd2, hc2, hsd⟩ := hsd
   unfold bc_ at hc2
   obtain ⟨s2, rfl⟩ := hc2
   unfold a8_ at hsd
   obtain ⟨_, d3, hd3, hc3, hsd⟩ := hsd
   unfold bc_ at hc3
   obtain ⟨e3, rfl, hc3⟩ := hc3
   unfold a8_ at hsd
   subst hsd
   subst hd3
   subst hd2
   subst hd1
   subst hd0
   simp only [aI_, aN_, Nat.add_zero] at hcn
   obtain ⟨m, es, e, f2, r1, r2, r3, ho_0, nd2, hl2, hfin⟩ := hM.elem hl nd hj2
   obtain ⟨q0, rfl, ho_1⟩ := ho_0.inv_val
   obtain ⟨q1, rfl, ho_2⟩ := ho_1.inv_val
   obtain ⟨q2, rfl, ho_3⟩ := ho_2.inv_val
   obtain ⟨c3, q3, g3, w3, rfl, rfl, hw3, ho_4⟩ := ho_3.inv_cons
   obtain ⟨rfl, rfl⟩ := ho_4.inv_nil
   simp only [append_nil] at nd2 hl2
   have nd_3 : g3.Nodup := by first | exact nd2 | exact nd2.1 | exact nd2.2.1 | (simp_all; done)
   have hl_3 : l ∉ g3 := fun q => hl2 (by simp [q])
   have u1 : ∀ r, (h.set l r)[l]? = some r := fun r => getElem?_set_self (List.getElem?_eq_some_iff.1 r1).1
   have u2 : ∀ x, (es.set (lo + i) x)[lo + i]? = some x := fun x => getElem?_set_self (List.getElem?_eq_some_iff.1 r3).1
   simp (disch := omega) only [t0, t1, t5, hlt, hsl, hj4, hlo, r1, r2, r3, u1, u2, ls_, set_set, go_sem, reduceEqDiff, Nat.reduceAdd, reduceLeDiff, reduceCtorEq, ↓reduceIte]
   refine aa_.call (gM_ (z + 1 + 1) (by omega) (by omega) _) ?_
   simp (disch := omega) only [t0, t5, hj4, r2, u1, u2, ls_, set_set, go_sem, reduceEqDiff, Nat.reduceAdd, reduceLeDiff, reduceCtorEq, ↓reduceIte]
   refine g3_ _ c3 e3 g3 _ (z + 1 + 1 + 1) _ (hw3.keep fun x hx => ?_) nd_3 hc3 (by omega) (by omega) (fun H1 m1 x1 y1 v1 => ?_)
   ·first | rfl | exact getElem?_set_ne (by rintro rfl; exact hl_3 hx)
   have hq3 : (aA_ (aR_ aT_ [.str]) e3 (z + 1 + 1 + 1)).2 = z + 1 + 1 + 1 + (aS_ (aI_ [.str]) e3 : Nat) := cd_ (fun x _ k => cc_ _ x k) _
   have p1 := (y1 l hl_3).trans (by first | exact u1 _ | exact r1)
   have un1 : ∀ r, (H1.set l r)[l]? = some r := fun r => getElem?_set_self (List.getElem?_eq_some_iff.1 p1).1
   simp (disch := omega) only [t5, go_sem, reduceEqDiff, ↓reduceIte]
   refine ⟨seg.length - (i + 1), by omega, hJ _ _ _ ⟨i + 1, rs.set (lo + i) _, by simp [upd, t0], by rw [hst]; simp [upd, aR_, aY_], by simp [upd], hfin _ _ _ ?_ (by first | exact un1 _ | exact p1) ?_ ?_, rfl, by omega, by simpa using hrl1, by rw [hst]; exact hss _⟩⟩
   ·simp only [ls_, x1]
   ·intro x hx
    simp only [mem_cons, not_or, append_nil] at hx
    try rw [getElem?_set_ne (Ne.symm hx.1)]
    rw [y1 x (by intro hq; first | (simp_all; done) | exact nd.2.2 _ hq _ hx rfl | exact nd.2.2 _ hx _ hq rfl | grind)]
    try rw [getElem?_set_ne (Ne.symm hx.1)]
   ·simp only [aR_, aY_]
    exact ⟨_, (ax_.mk_val _ (ax_.mk_val _ (ax_.mk_val _ (ax_.mk_list (v1.keep fun x hx => by first | rfl | ((try rw [getElem?_set_ne (by rintro rfl; exact hl_3 hx)]))) (ax_.mk_nil (Own _ (0 + 1)))))))⟩
  ·obtain ⟨m, es, r1, r2, _⟩ := hM.out
   have e1 : seg.take i = seg := take_of_length_le (by omega)
   have e2 : seg.drop i = [] := drop_eq_nil_of_le (by omega)
   rw [e1] at t1 hS
   rw [e2, append_nil] at hS
   simp (disch := omega) only [t0, t1, t5, hlt, hsl, hlo, r1, r2, go_sem, reduceEqDiff, reduceCtorEq, ↓reduceIte]
   exact hK _ rs hM hS
theorem oA_ (x : ac_) : a8_ [.list [.int, .int, .str, .list [.str]], .list [.int, .int, .str, .list [.str]]] (ac_.cells x) := by
 simp only [ac_.cells, a8_, bc_]
 exact ⟨_, _, rfl, ⟨_, rfl, oP_ _⟩, ⟨_, _, rfl, ⟨_, rfl, pG_ _⟩, rfl⟩⟩
theorem lu_ (x : ac_) (hb : ac_.sz x ≤ 1048576) : cl_ [.list [.int, .int, .str, .list [.str]], .list [.int, .int, .str, .list [.str]]] (ac_.cells x) ≤ 8 * 1048576 := by
 have c0 := nx_ (x.Held)
 have c1 := pm_ (x.Asks)
 have hsz0 : ∀ y : ac_, ac_.sz y = (as_ ab_.sz) y.Held + (as_ af_.sz) y.Asks := fun _ => rfl
 simp only [hsz0] at *
 simp only [ac_.cells, cl_, aN_]
 omega
theorem lg_ (x : ac_) (hb : ac_.sz x ≤ 1048576) : bb_ prog 10 [.agg (ac_.cells x)] (.agg (ac_.cells x)) (fun a => ∃ l_Held l_Asks, a = .agg [.own l_Held (x.Held).length, .own l_Asks (x.Asks).length]) := by
 have hsz : ac_.sz x = (as_ ab_.sz) x.Held + (as_ af_.sz) x.Asks := rfl
 refine er_ mixed Tryz.func10 qZ_ rfl (fun h0 => ?_)
 simp (disch := omega) only [p4_, c10, ac_.cells, go_sem, reduceEqDiff, Nat.reduceAdd, ↓reduceIte]
 refine ll_ x.Held (by omega) _ _ (fun av1 hn1 hf1 hq1 => ?_)
 obtain ⟨l_Held, rfl⟩ := hq1
 simp (disch := omega) only [go_sem, reduceEqDiff, Nat.reduceAdd, reduceLeDiff, ↓reduceIte]
 refine lF_ x.Asks (by omega) _ _ (fun av2 hn2 hf2 hq2 => ?_)
 obtain ⟨l_Asks, rfl⟩ := hq2
 simp (disch := omega) only [go_sem, reduceEqDiff, Nat.reduceAdd, ↓reduceIte, dE_]
 exact ⟨_, rfl, in_ (aH_.cons ((hf1.b.keep fun l q1 q2 => np_ (t := hn2) (by simp) q1 q2).widen (by first | omega | (simp; done) | (simp; omega)) (Nat.le_refl _)) (aH_.cons ((hf2.b.keep fun l q1 q2 => np_ (t := []) (by simp) q1 q2).widen (by first | omega | (simp; done) | (simp; omega)) (Nat.le_refl _)) (aH_.nil _ _ _) ⟨(by first | omega | (simp; done) | (simp; omega)), (by first | omega | (simp; done) | (simp; omega))⟩) ⟨(by first | omega | (simp; done) | (simp; omega)), (by first | omega | (simp; done) | (simp; omega))⟩), l_Held, l_Asks, rfl⟩
theorem lW_ : rr_ prog 14 aT_ [.list [.int, .int, .str, .list [.str]], .list [.int, .int, .str, .list [.str]]] := by
 intro m cs ds f H k K ho_0 nd hsh hk hb hK
 unfold a8_ at hsh
 obtain ⟨_, d0, hd0, hc0, hsh⟩ := hsh
 unfold bc_ at hc0
 obtain ⟨e0, rfl, hc0⟩ := hc0
 unfold a8_ at hsh
 obtain ⟨_, d1, hd1, hc1, hsh⟩ := hsh
 unfold bc_ at hc1
 obtain ⟨e1, rfl, hc1⟩ := hc1
 unfold a8_ at hsh
 subst hsh
 subst hd1
 subst hd0
 simp only [cl_, aN_, Nat.add_zero] at hb
 have hlt : ∀ x ∈ f, x < H.length := fun x hx => by
  obtain ⟨row, _, _, _, q, _⟩ := ax_.inner (fun a r f ho => Own.inner ho) ho_0 x hx
  exact (List.getElem?_eq_some_iff.1 q).1
 obtain ⟨c0, q0, g0, w0, rfl, rfl, hw0, ho_1⟩ := ho_0.inv_cons
 obtain ⟨c1, q1, g1, w1, rfl, rfl, hw1, ho_2⟩ := ho_1.inv_cons
 obtain ⟨rfl, rfl⟩ := ho_2.inv_nil
 simp only [nodup_append, mem_append, append_nil] at nd hlt
 have nd_0 : g0.Nodup := by first | exact nd | exact nd.1 | exact nd.2.1 | (simp_all; done)
 have hl_0 : ∀ x ∈ g0, x < H.length := fun x hx => hlt x (by simp [hx])
 have cc0 := hw0.cell_list
 simp only [AV.cell, Value.oneCell'] at cc0
 have nd_1 : g1.Nodup := by first | exact nd | exact nd.1 | exact nd.2.1 | (simp_all; done)
 have hl_1 : ∀ x ∈ g1, x < H.length := fun x hx => hlt x (by simp [hx])
 have cc1 := hw1.cell_list
 simp only [AV.cell, Value.oneCell'] at cc1
 refine ba_ mixed Tryz.func14 vd_ (bP_ rfl ?_)
 simp (disch := omega) only [sQ_, c14, cc0, cc1, go_sem, reduceEqDiff, Nat.reduceAdd, ↓reduceIte]
 refine mo_ _ c0 e0 g0 _ (k) _ (hw0.keep fun x hx => ?_) nd_0 hc0 (by omega) (by omega) (fun H1 m1 x1 y1 v1 => ?_)
 ·exact getElem?_append_left (hl_0 x hx)
 have hq0 : (aA_ (aR_ aT_ [.int, .int, .str, .list [.str]]) e0 (k)).2 = k + (aS_ (aI_ [.int, .int, .str, .list [.str]]) e0 : Nat) := cd_ (fun x _ k => cc_ _ x k) _
 have p1 := (y1 H.length (fun hq => by have := hl_0 _ hq; omega)).trans (cW_ _ _)
 simp (disch := omega) only [p1, go_sem, reduceEqDiff, ↓reduceIte]
 refine mO_ _ c1 e1 g1 _ ((aA_ (aR_ aT_ [.int, .int, .str, .list [.str]]) e0 (k)).2) _ (hw1.keep fun x hx => ?_) nd_1 hc1 (by omega) (by omega) (fun H2 m2 x2 y2 v2 => ?_)
 ·rw [y1 x (by intro hq; first | (simp_all; done) | exact nd.2.2 _ hq _ hx rfl | exact nd.2.2 _ hx _ hq rfl | grind)]; exact getElem?_append_left (hl_1 x hx)
 have hq1 : (aA_ (aR_ aT_ [.int, .int, .str, .list [.str]]) e1 ((aA_ (aR_ aT_ [.int, .int, .str, .list [.str]]) e0 (k)).2)).2 = (aA_ (aR_ aT_ [.int, .int, .str, .list [.str]]) e0 (k)).2 + (aS_ (aI_ [.int, .int, .str, .list [.str]]) e1 : Nat) := cd_ (fun x _ k => cc_ _ x k) _
 have p2 := (y2 H.length (fun hq => by have := hl_1 _ hq; omega)).trans (by first | exact cW_ _ _ | exact p1)
 simp (disch := omega) only [go_sem, ↓reduceIte]
 have hfr : ∀ x, x < H.length → x ∉ (g0 ++ g1) → H2[x]? = H[x]? := by
  intro x hx hxf
  try simp only [mem_append, not_or] at hxf
  rw [y2 x (by intro hq; first | (simp_all; done) | exact nd.2.2 _ hq _ hx rfl | exact nd.2.2 _ hx _ hq rfl | grind)]
  rw [y1 x (by intro hq; first | (simp_all; done) | exact nd.2.2 _ hq _ hx rfl | exact nd.2.2 _ hx _ hq rfl | grind)]
  exact getElem?_append_left hx
 have hfin := hK H2 (by simp only [x2, x1, la_]; omega) (fun x hx hxf => hfr x hx (by simpa using hxf)) (by simp only [cf_, aY_]; exact ⟨_, (ax_.mk_list (v1.keep fun x hx => by rw [y2 x (by intro hq; first | (simp_all; done) | exact nd.2.2 _ hq _ hx rfl | exact nd.2.2 _ hx _ hq rfl | grind)]) (ax_.mk_list (v2.keep fun x hx => by rfl) (ax_.mk_nil (Own _ (0 + 1)))))⟩)
 simp only [cf_, aY_] at hfin
 exact hfin
theorem ns_ (xs : List Int) : ∀ e ∈ xs.map bA_, a8_ [.int] e := by
 intro e he
 obtain ⟨x, _, q⟩ := mem_map.1 he; subst q
 simp only [a8_, bc_, bA_]
 exact ⟨_, _, rfl, ⟨_, rfl⟩, rfl⟩
theorem mQ_ (xs : List Int) : aS_ (aI_ [.int]) (xs.map bA_) ≤ 1 * (as_ (fun _ => 0)) xs := by
 refine fs_ (fun x => ?_) xs
 simp only [aI_, aN_]
 omega
theorem nP_ (xs : List Int) (hb : (as_ (fun _ => 0)) xs ≤ 1048576) : aS_ (aI_ [.int]) (xs.map bA_) ≤ 1 * 1048576 := by
 have := mQ_ xs
 omega
theorem lk_ : eK_ prog 15 aT_ [.int] := by
 refine eK_.of ?_ ?_
 ·intro H k K hK
  refine ba_ mixed Tryz.func15 ry_ (bP_ rfl ?_)
  simp (disch := omega) only [qA_, c15, go_sem]
  refine ay_ (fun n t h => t 0 = .val (.slice none 0 0) ∧ t 1 = .val (.int .i64 k) ∧ t 5 = .val (.int .i64 0) ∧ h = H) 0 ⟨rfl, rfl, rfl, rfl⟩ ?_
  rintro J hJ n t h ⟨t0, t1, t5, rfl⟩
  simp (disch := omega) only [t0, t1, t5, go_sem, reduceEqDiff, reduceCtorEq, Int.reduceLT, ↓reduceIte]
  exact hK
 ·intro l cnt lo hi E rs0 f H0 k K hT hl nd hrl hlo hhi hsh hk hb hK
  refine ba_ mixed Tryz.func15 ry_ (bP_ rfl ?_)
  obtain ⟨seg, hseg⟩ : ∃ seg, seg = (rs0.take hi).drop lo := ⟨_, rfl⟩
  rw [← hseg] at hsh hb hK
  have hsl : hi - lo = seg.length := by rw [hseg, length_drop, length_take]; omega
  have hsn : seg.length ≤ aS_ (aI_ [.int]) seg := fT_ (c := aI_ [.int]) (fun e he => by have q := hsh e he; unfold a8_ at q; obtain ⟨c, r, rfl, _, _⟩ := q; simp only [aI_, aN_]; omega)
  simp (disch := omega) only [qA_, c15, go_sem]
  refine ay_ (fun n t h => ∃ (i : Nat) (rs : List (List AV)), t 0 = .sub l cnt lo hi ∧ t 1 = .val (.int .i64 (aA_ (aR_ aT_ [.int]) (seg.take i) k).2) ∧ t 5 = .val (.int .i64 i) ∧ MT H0 l E 1 cnt f rs h ∧ n = seg.length - i ∧ i ≤ seg.length ∧ rs.length = cnt ∧ (rs.take hi).drop lo = (aA_ (aR_ aT_ [.int]) (seg.take i) k).1 ++ seg.drop i) seg.length ⟨0, rs0, rfl, rfl, rfl, hT, rfl, Nat.zero_le _, hrl, hseg.symm⟩ ?_
  rintro J hJ n t h ⟨i, rs, t0, t1, t5, hM, rfl, hi1, hrl1, hS⟩
  by_cases hlt : i < seg.length
  ·have hA : (aA_ (aR_ aT_ [.int]) (seg.take i) k).1.length = i := by rw [eF_, length_take]; omega
   have hst := hG_ (g := (aR_ aT_ [.int])) (k := k) hlt
   have hcn := fY_ (c := aI_ [.int]) hlt
   have hzz : (aA_ (aR_ aT_ [.int]) (seg.take i) k).2 = k + aS_ (aI_ [.int]) (seg.take i) := cd_ (fun x _ k => cc_ [.int] x k) k
   have hj4 : (lo : Int) + (i : Int) < (hi : Int) := by omega
   have hj2 := (iA_ hS hA hlt).2.1
   have hsd := hsh _ (getElem_mem hlt)
   have hss : ∀ d, ((rs.set (lo + i) d).take hi).drop lo = ((aA_ (aR_ aT_ [.int]) (seg.take i) k).1 ++ [d]) ++ seg.drop (i + 1) := fun d => hI_ hS hA hlt
   clear hS hA
   generalize seg[i] = d at hst hcn hj2 hsd
   obtain ⟨z, hz⟩ : ∃ z, z = (aA_ (aR_ aT_ [.int]) (seg.take i) k).2 := ⟨_, rfl⟩
   rw [← hz] at hst hzz t1
   have hz0 : 0 ≤ z := by omega
   unfold a8_ at hsd
   obtain ⟨_, d0, hd0, hc0, hsd⟩ := hsd
   unfold bc_ at hc0
   obtain ⟨n0, rfl⟩ := hc0
   unfold a8_ at hsd
   subst hsd
   subst hd0
   simp only [aI_, aN_, Nat.add_zero] at hcn
   obtain ⟨m, es, e, f2, r1, r2, r3, ho_0, nd2, hl2, hfin⟩ := hM.elem hl nd hj2
   obtain ⟨q0, rfl, ho_1⟩ := ho_0.inv_val
   obtain ⟨rfl, rfl⟩ := ho_1.inv_nil
   have u1 : ∀ r, (h.set l r)[l]? = some r := fun r => getElem?_set_self (List.getElem?_eq_some_iff.1 r1).1
   have u2 : ∀ x, (es.set (lo + i) x)[lo + i]? = some x := fun x => getElem?_set_self (List.getElem?_eq_some_iff.1 r3).1
   simp (disch := omega) only [t0, t1, t5, hlt, hsl, hj4, hlo, r1, r2, r3, go_sem, reduceEqDiff, reduceCtorEq, ↓reduceIte]
   refine ⟨seg.length - (i + 1), by omega, hJ _ _ _ ⟨i + 1, rs.set (lo + i) _, by simp [upd, t0], by rw [hst]; simp [upd, aR_, aY_], by simp [upd], hfin _ _ _ ?_ (by first | exact u1 _ | exact u1 _) ?_ ?_, rfl, by omega, by simpa using hrl1, by rw [hst]; exact hss _⟩⟩
   ·simp only [ls_]
   ·intro x hx
    simp only [mem_cons, not_or] at hx
    try rw [getElem?_set_ne (Ne.symm hx.1)]
   ·simp only [aR_, aY_]
    exact ⟨_, (ax_.mk_val _ (ax_.mk_nil (Own _ (0 + 1))))⟩
  ·obtain ⟨m, es, r1, r2, _⟩ := hM.out
   have e1 : seg.take i = seg := take_of_length_le (by omega)
   have e2 : seg.drop i = [] := drop_eq_nil_of_le (by omega)
   rw [e1] at t1 hS
   rw [e2, append_nil] at hS
   simp (disch := omega) only [t0, t1, t5, hlt, hsl, hlo, r1, r2, go_sem, reduceEqDiff, reduceCtorEq, ↓reduceIte]
   exact hK _ rs hM hS
theorem hU_ (es : List (List AV)) (k : Int) (hsh : ∀ e ∈ es, a8_ [.int] e) (hk : 0 ≤ k) (hb : k + aS_ (aI_ [.int]) es ≤ 4611686018427387904) (h : List Row) : aa_ prog 16 [.list 0 1 es, .val (.int .i64 k)] h (.val (.int .i64 (cJ_ (dk_ aT_ [.int]) es k))) := by
 refine am_ mixed Tryz.func16 vH_ rfl rfl ?_ h
 have hsn : es.length ≤ aS_ (aI_ [.int]) es := fT_ (c := aI_ [.int]) (fun e he => by have q := hsh e he; unfold a8_ at q; obtain ⟨c, r, rfl, _, _⟩ := q; simp only [aI_, aN_]; omega)
 simp (disch := omega) only [tj_, c16, go_sem, Int.reduceNeg]
 refine ay_ (fun n t h => ∃ (i : Nat) (z : Int), t 0 = .list 0 1 es ∧ t 1 = .val (.int .i64 z) ∧ t 5 = .val (.int .i64 i) ∧ n = es.length - i ∧ i ≤ es.length ∧ 0 ≤ z ∧ z + aS_ (aI_ [.int]) (es.drop i) ≤ 4611686018427387904 ∧ cJ_ (dk_ aT_ [.int]) es k = cJ_ (dk_ aT_ [.int]) (es.drop i) z) es.length ⟨0, k, rfl, rfl, rfl, rfl, Nat.zero_le _, hk, hb, rfl⟩ ?_
 rintro J hJ n t h ⟨i, z, t0, t1, t5, rfl, hi, hz0, hzb, hS⟩
 by_cases hlt : i < es.length
 ·rw [pP_ hlt] at hS
  rw [uF_ hlt] at hzb
  have hsd := hsh _ (getElem_mem hlt)
  obtain ⟨d, hd⟩ : ∃ d, es[i] = d := ⟨_, rfl⟩
  rw [hd] at hS hzb hsd
  have hg : es[i]? = some d := by rw [getElem?_eq_getElem hlt, hd]
  unfold a8_ at hsd
  obtain ⟨_, d0, hd0, hc0, hsd⟩ := hsd
  unfold bc_ at hc0
  obtain ⟨n0, rfl⟩ := hc0
  unfold a8_ at hsd
  subst hsd
  subst hd0
  simp only [aI_, aN_, Nat.add_zero] at hzb
  simp (disch := omega) only [t0, t1, t5, hlt, hg, go_sem, reduceEqDiff, reduceCtorEq, Int.reduceNeg, ↓reduceIte]
  by_cases q0 : n0 = z
  case neg =>
   simp (disch := omega) only [q0, go_sem, Int.reduceNeg, ↓reduceIte]
   exact at_ (by rw [hS]; exact (k2_ (by simp (disch := first | assumption | omega) only [o3_])).symm)
  simp (disch := omega) only [t1, t5, q0, go_sem, reduceEqDiff, Int.reduceNeg, ↓reduceIte]
  exact ⟨es.length - (i + 1), by omega, hJ _ _ _ ⟨i + 1, z + 1, by simp [upd, t0], by simp [upd], by simp [upd], rfl, by omega, by omega, by omega, by rw [hS]; exact kM_ (by simp (disch := first | assumption | omega) only [qj_, pW_]) (by omega)⟩⟩
 ·simp (disch := omega) only [t0, t1, t5, hlt, go_sem, reduceEqDiff, reduceCtorEq, Int.reduceNeg, ↓reduceIte]
  exact at_ (by rw [hS, drop_eq_nil_of_le (by omega)]; rfl)
end Go.Proofs.YtodgohgdnmifaaaGreatDoor
