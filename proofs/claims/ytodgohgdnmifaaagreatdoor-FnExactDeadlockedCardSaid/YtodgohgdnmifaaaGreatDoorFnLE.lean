/-
 Contracts of functions. Conditions: as each theorem says.
-/
import Derived.Test.YtodgohgdnmifaaaGreatDoorFnY
import Derived.Test.YtodgohgdnmifaaaGreatDoorShelfB
import Derived.Test.YtodgohgdnmifaaaGreatDoorAwC
namespace Go.Proofs.YtodgohgdnmifaaaGreatDoor
open List
open Go.AW
set_option linter.unusedVariables false
set_option linter.unusedSimpArgs false
set_option maxRecDepth 4000
open Tryz (prog)
open Nat (reduceEqDiff reduceLeDiff)
theorem dm_ {zs : List Int} {l : Nat} {H : List Row} (hl : H[l]? = some ⟨.ty 2, 1, ak_ zs⟩) (hlen : zs.length ≤ 4000000) {K : AV → List Row → Prop} (hk : K (.tup []) (H.set l ⟨.ty 2, 1, ak_ (bJ_ zs)⟩)) :
 callSem Tryz.prog 45 [.own l zs.length] H K :=
 p6_ (fun blk off cap zs w h1 h2 h3 => Tryz.slices_Sort_int blk off cap zs w h1 h2 h3) (fun p cap w => Tryz.slices_Sort_int_none p cap w) hl (by omega) hk
theorem gO_ : ∀ (x : Int) (r : List Int), ∃ r', aV_ (x :: r) = x :: r'
 | x, [] => ⟨[], rfl⟩
 | x, y :: r => by
  simp only [aV_]
  by_cases h : x = y
  ·subst h; rw [if_pos rfl]; exact gO_ x r
  ·rw [if_neg h]; exact ⟨_, rfl⟩
theorem i2_ (zs : List Int) (a : Nat) (h0 : 0 < a) (h : a < zs.length) : aV_ (zs.drop (a - 1)) = if zs[a - 1] = zs[a] then aV_ (zs.drop a) else zs[a - 1] :: aV_ (zs.drop a) := by
 rw [drop_eq_getElem_cons (show a - 1 < zs.length by omega)]
 rw [show a - 1 + 1 = a by omega, drop_eq_getElem_cons h]
 rfl
theorem hR_ (zs : List Int) (h : 0 < zs.length) : aV_ (zs.drop (zs.length - 1)) = [zs[zs.length - 1]] := by
 rw [drop_eq_getElem_cons (by omega), drop_eq_nil_of_le (by omega)]; rfl
def qN_ : LC :=
 .q [.o [.nl 2], .q [.o [.m 6 0, .ll 7 6, .bk 8 .lss false 7 2], .k 8 (.q [.o [.m 9 0, .m 2 9], .ret]) .skip], .q [.o [.ki 3 1], .block 0 (.loop (.q [.q [.o [.m 10 3, .m 11 0, .ll 12 11, .bb 13 .lss false 10 12], .k 13
 .skip (.exit 0)], .block 1 (.q [.dops [.m 16 0, .m 17 3, .ia 18 1 16 17, .ln 19 18, .m 20 0, .m 21 3, .bk 22 .sub false 21 1, .ia 23 1 20 22, .ln 24 23, .bb 25 .eql false 19 24], .k 25 (.q [.o [.m 26 0, .m 27 3, .s 28
 (.sliceSl 1 (.tmp 26) (some (.tmp 27)) none), .m 4 28], .q [.o [.ki 5 1], .block 2 (.loop (.q [.q [.o [.m 29 5, .m 30 4, .ll 31 30, .bb 32 .lss false 29 31], .k 32 .skip (.exit 2)], .block 3 (.q [.dops [.m 35 4, .m 36 5,
 .ia 37 1 35 36, .ln 38 37, .m 39 4, .m 40 5, .bk 41 .sub false 40 1, .ia 42 1 39 41, .ln 43 42, .bb 44 .neq false 38 43], .k 44 (.q [.o [.m 45 0, .m 46 3, .m 47 4, .m 48 5, .ia 49 1 47 48, .ln 50 49, .ia 51 1 45 46, .st
 1 51 50], .o [.m 52 3, .bk 53 .add false 52 1, .m 3 53]]) .skip]), .o [.m 33 5, .bk 34 .add false 33 1, .m 5 34]]))], .o [.m 54 0, .m 55 3, .s 56 (.sliceSl 1 (.tmp 54) (some (.tmp 55)) none), .z (.clear 2 1 (.int .i64 0)
 (.tmp 56))], .o [.m 57 0, .m 58 3, .s 59 (.sliceSl 1 (.tmp 57) none (some (.tmp 58))), .m 2 59], .ret]) .skip]), .o [.m 14 3, .bk 15 .add false 14 1, .m 3 15]]))], .o [.m 60 0, .m 2 60], .ret]
def n7_ : LF := ⟨1, 61, qN_, [.tmp 2]⟩
theorem uK_ : av_ Tryz.prog Tryz.f121 n7_ := aq_
theorem d7_ {zs : List Int} (hz : zs.length ≤ 4000000) {l : Nat} {H : List Row} (hl : H[l]? = some ⟨.ty 2, 1, ak_ zs⟩) {K : AV → List Row → Prop}
 (hK : ∀ a r', AW.resolve (H.set l r') 2 a = some (.list 0 1 (ak_ (aV_ zs))) → aP_ l (l + 1) (H.set l r') a (.list 0 1 (ak_ (aV_ zs))) → K a (H.set l r')) : callSem Tryz.prog 121 [.own l zs.length] H K := by
 refine ba_ mixed Tryz.func121 uK_ (bP_ rfl ?_)
 have hself : H.set l ⟨.ty 2, 1, ak_ zs⟩ = H := by have := e6_ hl; simpa using this
 have hget : ∀ r : Row, (H.set l r)[l]? = some r := fun r => jv_ hl
 have hown : ∀ zs', zs' = aV_ zs → zs' = zs → K (.own l zs.length) H := by
  intro zs' e1 e2
  have := hK (.own l zs.length) ⟨.ty 2, 1, ak_ zs⟩ (by
   rw [hself, ← e1, e2]
   exact g2_ hl (aG_ _) (c0_ _)) (by
   rw [hself, ← e1, e2]
   exact ⟨2, [l], ⟨_, ak_ zs, [], hl, aG_ zs, dM_ zs, rfl, rfl⟩, by simp, by simp⟩)
  rwa [hself] at this
 by_cases h2 : (zs.length : Int) < 2
 ·simp (disch := omega) only [n7_, qN_, hl, h2, go_sem, reduceCtorEq, ↓reduceIte]
  refine hown (aV_ zs) rfl ?_
  match zs, h2 with
  | [], _ => rfl
  | [x], _ => rfl
  | x :: y :: r, h2 => simp at h2; omega
 simp (disch := omega) only [n7_, qN_, hl, h2, go_sem, reduceCtorEq, ↓reduceIte]
 refine ay_ (fun m t h => ∃ k : Nat, t 0 = .own l zs.length ∧ t 3 = .val (.int .i64 k) ∧ h = H ∧ m = zs.length - k ∧ 1 ≤ k ∧ k ≤ zs.length ∧ aV_ zs = zs.take (k - 1) ++ aV_ (zs.drop (k - 1))) (zs.length - 1) ⟨1, rfl, rfl, rfl, rfl, Nat.le_refl _, by omega, by simp⟩ ?_
 rintro J hJ m t h ⟨k, t0, t3, rfl, rfl, hk1, hk, hS⟩
 by_cases hlt : k < zs.length
 ·have hg := b1_ zs k hlt
  have hg1 := b1_ zs (k - 1) (by omega)
  have hkp : ((k : Int) - 1) = ((k - 1 : Nat) : Int) := by omega
  have hlt1 : k - 1 < zs.length := by omega
  rw [i2_ zs k hk1 hlt] at hS
  by_cases he : zs[k] = zs[k - 1]
  ·rw [if_pos he.symm] at hS
   have he' : (zs[k] = zs[k - 1]) = True := eq_true he
   simp (disch := omega) only [t0, t3, hl, hlt, hlt1, hg, hg1, hkp, he', go_sem, Nat.reduceEqDiff, reduceCtorEq, ↓reduceIte]
   have hes : zs.take k = zs.take (k - 1) ++ [zs[k - 1]] := by rw [take_append_getElem hlt1]; congr 1; omega
   have hS2 : aV_ zs = zs.take k ++ (aV_ (zs.drop k)).drop 1 := by
    rw [hS, hes]
    obtain ⟨r', e⟩ := gO_ zs[k] (zs.drop (k + 1))
    rw [← drop_eq_getElem_cons hlt] at e
    rw [e, he, append_assoc]; rfl
   refine ay_ (fun m t h' => ∃ (c k2 : Nat) (ws : List Int), t 0 = .own l zs.length ∧ t 3 = .val (.int .i64 c) ∧ t 4 = .sub l zs.length k zs.length ∧ t 5 = .val (.int .i64 k2) ∧ h' = h.set l ⟨.ty 2, 1, ak_ ws⟩ ∧ m = zs.length - (k + k2) ∧ 1 ≤ k2 ∧ k + k2 ≤ zs.length ∧ c < k + k2 ∧ ws.length = zs.length ∧ (∀ i, k + k2 - 1 ≤ i → ws[i]? = zs[i]?) ∧ aV_ zs = ws.take c ++ (aV_ (zs.drop (k + k2 - 1))).drop 1) (zs.length - (k + 1))
    ⟨k, 1, zs, by simp [upd, t0], by simp [upd, t3], by simp [upd], by simp [upd], hself.symm, rfl, Nat.le_refl _, by omega, by omega, rfl, fun _ _ => rfl, by rw [show k + 1 - 1 = k by omega]; exact hS2⟩ ?_
   clear hS hS2 hg hg1 t0 t3
   rintro J2 hJ2 m t h' ⟨c, k2, ws, t0, t3, t4, t5, rfl, rfl, hk2, hkk, hc, hwl, hws, hS⟩
   by_cases hlt2 : k + k2 < zs.length
   ·have hcond : ((k : Int) + (k2 : Int) < (zs.length : Int)) = True := eq_true (by omega)
    have hcond1 : ((k : Int) + ((k2 - 1 : Nat) : Int) < (zs.length : Int)) = True := eq_true (by omega)
    have hl2 : ((k2 : Int) < ((zs.length - k : Nat) : Int)) = True := eq_true (by omega)
    have hp2 : ((k2 : Int) - 1) = ((k2 - 1 : Nat) : Int) := by omega
    have g1 : (ak_ ws)[k + k2]? = some [.val (.int .i64 zs[k + k2])] := by
     have : ws[k + k2]? = some zs[k + k2] := by rw [hws _ (by omega)]; exact getElem?_eq_getElem hlt2
     simp [ak_, this]
    have hlt3 : k + (k2 - 1) < zs.length := by omega
    have g2 : (ak_ ws)[k + (k2 - 1)]? = some [.val (.int .i64 zs[k + (k2 - 1)])] := by
     have : ws[k + (k2 - 1)]? = some zs[k + (k2 - 1)] := by rw [hws _ (by omega)]; exact getElem?_eq_getElem hlt3
     simp [ak_, this]
    have hcw : c < ws.length := by omega
    have g3 := b1_ ws c hcw
    have hcz : ((c : Int) < (zs.length : Int)) = True := eq_true (by omega)
    have hidx : k + k2 - 1 = k + (k2 - 1) := by omega
    rw [hidx] at hS
    have hat := i2_ zs (k + k2) (by omega) hlt2
    simp only [hidx] at hat
    rw [hat] at hS
    by_cases hne : zs[k + k2] = zs[k + (k2 - 1)]
    ·have hne' : (zs[k + k2] = zs[k + (k2 - 1)]) = True := eq_true hne
     rw [if_pos hne.symm] at hS
     simp (disch := omega) only [t4, t5, hget, hwl, hcond, hcond1, hl2, hp2, g1, g2, hne', hk, go_sem, Nat.reduceEqDiff, ↓reduceIte]
     exact ⟨zs.length - (k + (k2 + 1)), by omega, hJ2 _ _ _ ⟨c, k2 + 1, ws, by simp [upd, t0], by simp [upd, t3], by simp [upd, t4], by simp [upd], rfl, rfl, by omega, by omega, by omega, hwl, fun i hi => hws i (by omega), by rw [show k + (k2 + 1) - 1 = k + k2 by omega]; exact hS⟩⟩
    ·have hne' : (zs[k + k2] = zs[k + (k2 - 1)]) = False := eq_false hne
     rw [if_neg (fun q => hne q.symm)] at hS
     simp (disch := omega) only [t0, t3, t4, t5, hget, hwl, hcond, hcond1, hl2, hp2, g1, g2, g3, hne', hcz, hk, set_set, jt_, go_sem, Nat.reduceEqDiff, reduceCtorEq, ↓reduceIte]
     refine ⟨zs.length - (k + (k2 + 1)), by omega, hJ2 _ _ _ ⟨c + 1, k2 + 1, ws.set c zs[k + k2], by simp [upd, t0], by simp [upd], by simp [upd, t4], by simp [upd], rfl, rfl, by omega, by omega, by omega, by simp [hwl], fun i hi => ?_, ?_⟩⟩
     ·rw [getElem?_set_ne (by omega)]; exact hws i (by omega)
     ·rw [show k + (k2 + 1) - 1 = k + k2 by omega, hS]
      obtain ⟨r', e⟩ := gO_ zs[k + k2] (zs.drop (k + k2 + 1))
      rw [← drop_eq_getElem_cons hlt2] at e
      rw [e]
      have : (ws.set c zs[k + k2]).take (c + 1) = ws.take c ++ [zs[k + k2]] := by
       rw [← take_append_getElem (by simpa using hcw)]
       simp [take_set_of_le]
      rw [this]; simp
   ·have hend : k + k2 - 1 = zs.length - 1 := by omega
    have hl2 : ((k2 : Int) < ((zs.length - k : Nat) : Int)) = False := eq_false (by omega)
    have hfin : aV_ zs = ws.take c := by rw [hS, hend, hR_ zs (by omega)]; simp
    simp (disch := omega) only [t0, t3, t4, t5, hget, hwl, hl2, hk, set_set, go_sem, Nat.reduceEqDiff, reduceCtorEq, ↓reduceIte]
    refine ⟨by omega, ?_⟩
    have hrow : ∀ A : List (List AV), A = (ak_ ws).take c ++ (List.replicate (zs.length - c) [AV.val (Value.int .i64 0)] ++ (ak_ ws).drop zs.length) → A = ak_ (ws.take c ++ List.replicate (zs.length - c) 0) := by
     intro A e
     rw [e, drop_eq_nil_of_le (by rw [aG_]; omega), append_nil, d8_, ← eJ_]
     congr 1
     simp [ak_]
    rw [if_pos ⟨by simp [aG_, hwl]; omega, by omega⟩]
    have hr := hrow _ rfl
    have hlen2 : (ws.take c ++ List.replicate (zs.length - c) (0 : Int)).length = zs.length := by simp; omega
    have hcut : ((ak_ (ws.take c ++ List.replicate (zs.length - c) (0 : Int))).take c).drop 0 = ak_ (aV_ zs) := by
     rw [drop_zero, d8_, hfin]
     congr 1
     rw [take_append_of_le_length (by simp; omega), take_take]; simp
    refine hK _ _ ?_ ?_
    ·rw [hr, nk_ (n := 0) (hget _) (by rw [aG_, hlen2]) (c0_ _)]
     exact congrArg (fun q => some (AV.list 0 1 q)) hcut
    ·rw [hr]
     exact ⟨2, [l], ⟨_, _, [], hget _, by rw [aG_, hlen2], dM_ _, congrArg (AV.list 0 1) hcut.symm, rfl⟩, by simp, by simp⟩
  ·rw [if_neg (fun q => he q.symm)] at hS
   have he' : (zs[k] = zs[k - 1]) = False := eq_false he
   simp (disch := omega) only [t0, t3, hl, hlt, hlt1, hg, hg1, hkp, he', go_sem, Nat.reduceEqDiff, reduceCtorEq, ↓reduceIte]
   refine ⟨zs.length - (k + 1), by omega, hJ _ _ _ ⟨k + 1, by simp [upd, t0], by simp [upd], rfl, rfl, by omega, by omega, ?_⟩⟩
   rw [hS, show k + 1 - 1 = k by omega]
   have e : zs.take k = zs.take (k - 1) ++ [zs[k - 1]] := by rw [take_append_getElem hlt1]; congr 1; omega
   rw [e, append_assoc]; rfl
 ·simp (disch := omega) only [t0, t3, hl, hlt, go_sem, Nat.reduceEqDiff, reduceCtorEq, ↓reduceIte]
  refine hown (aV_ zs) rfl ?_
  have : k - 1 = zs.length - 1 := by omega
  rw [hS, this, hR_ zs (by omega)]
  rw [take_append_getElem, show zs.length - 1 + 1 = zs.length by omega, take_length]
def c98 : LC :=
 .q [.o [.ki 4 0], .q [.o [.m 6 0, .ll 7 6, .ki 8 0], .block 0 (.loop (.q [.o [.bb 9 .lss false 8 7], .k 9 .skip (.exit 0), .block 1 (.q [.o [.m 10 8, .m 5 10], .o [.m 11 1, .m 12 0, .m 13 5, .ia 14 4 12 13, .ld 15 4 14,
 .s 16 (.callv (.tmp 11) [.tmp 15])], .k 16 (.q [.o [.m 17 5, .m 4 17], .ret]) .skip]), .o [.bk 18 .add false 8 1, .m 8 18]]))], .o [.s 4 (.mov (.const (.int .i64 (-1))))], .ret]
def u2_ : LF := ⟨2, 19, c98, [.tmp 4]⟩
theorem vE_ : av_ prog Tryz.f98 u2_ := aq_
theorem e7_ (xs : List af_) (p : af_ → Bool) (g : Nat) (caps : List AV) (hcf : caps.all AV.flat = true) (hx : xs.length ≤ 1048576) (hc : bH_ prog g = true) (hp : ∀ x ∈ xs, ∀ h, aa_ prog g (.agg (af_.cells x) :: caps) h (.val (.bool (p x)))) (h : List Row) :
 aa_ prog 98 [.list 0 4 (xs.map af_.cells), .fn g [] caps] h (.val (.int .i64 (aU_ p xs 0))) := by
 refine am_ mixed Tryz.func98 vE_ rfl (by simp only [all_cons, all_nil, eO_, gi_ _ _ hcf]; rfl) ?_ h
 simp (disch := omega) only [u2_, c98, go_sem, reduceCtorEq, Int.reduceNeg, ↓reduceIte]
 refine ay_ (fun n t h => ∃ k : Nat, t 0 = .list 0 4 (xs.map af_.cells) ∧ t 1 = .fn g [] caps ∧ t 6 = .list 0 4 (xs.map af_.cells) ∧ t 7 = .val (.int .i64 xs.length) ∧ t 8 = .val (.int .i64 k) ∧ n = xs.length - k ∧ k ≤ xs.length ∧ (aU_ p xs 0 = aU_ p (xs.drop k) k)) (xs.length) ?_ ?_
 ·exact ⟨0, rfl, rfl, rfl, rfl, rfl, rfl, Nat.zero_le _, rfl⟩
 ·rintro J hJ n t h ⟨k, t0, t1, t6, t7, k8, rfl, hk, hS⟩
  by_cases hlt : k < xs.length
  ·skip
   rw [cC_ p xs k hlt] at hS
   simp (disch := omega) only [t0, t1, t7, k8, hlt, hc, af_.cells, go_sem, reduceEqDiff, Nat.reduceAdd, reduceCtorEq, Int.reduceNeg, ↓reduceIte]
   repeat' (first
    | exact ad_ _ _
    | exact ⟨xs.length - (k + 1), by omega, hJ _ _ _ ⟨k + 1, by simp [upd, t0], by simp [upd, t1], by simp [upd, t6], by simp [upd, t7], by simp [upd], rfl, by omega, by rw [hS]; simp [*]⟩⟩
    | (refine at_ ?_; rw [hS]; simp [*]; done)
    | (refine at_ ?_; rw [hS, bB_ _ _ _ (by omega)])
    | simp (disch := omega) only [k8, go_sem, reduceEqDiff, Int.reduceNeg, ↓reduceIte]
    | (refine aa_.call (hp xs[k] (getElem_mem hlt) _) ?_)
    | (refine aa_.q (hp xs[k] (getElem_mem hlt) _) ?_)
    | ((first | (apply aD_; assumption) | (apply aE_; assumption) | (apply aL_; assumption) | (apply aJ_; assumption)); intro hb; try simp only [hb])
    | ((first | apply an_ | apply ao_) <;> intro hb <;> (try simp only [hb]) <;> (first | have hp := a4_ hb | have hp := a3_ hb | have hp := a1_ hb | have hp := aZ_ hb | skip)))
  ·skip
   simp (disch := omega) only [t7, k8, hlt, go_sem, Int.reduceNeg, ↓reduceIte]
   repeat' (first
    | exact ad_ _ _
    | (refine at_ ?_; rw [hS]; simp [*]; done)
    | (refine at_ ?_; rw [hS, bB_ _ _ _ (by omega)])
    | simp (disch := omega) only [t0, t1, t6, t7, k8, go_sem, reduceEqDiff, Nat.reduceAdd, reduceLeDiff, reduceCtorEq, Int.reduceLT, Int.reduceLE, Int.reduceNeg, Int.reduceSub, Int.reduceAdd, Int.reduceToNat, ↓reduceIte]
    | (refine aa_.call (hp xs[k] (getElem_mem hlt) _) ?_)
    | (refine aa_.q (hp xs[k] (getElem_mem hlt) _) ?_)
    | ((first | (apply aD_; assumption) | (apply aE_; assumption) | (apply aL_; assumption) | (apply aJ_; assumption)); intro hb; try simp only [hb])
    | ((first | apply an_ | apply ao_) <;> intro hb <;> (try simp only [hb]) <;> (first | have hp := a4_ hb | have hp := a3_ hb | have hp := a1_ hb | have hp := aZ_ hb | skip)))
def uc_ : LC :=
 .q [.o [.bx 2 64 0, .f 3], .o [.fa 4 0 2, .ln 5 4, .ln 6 1, .bb 7 .eql false 5 6, .m 3 7], .ret]
def rt_ : LF := ⟨2, 8, uc_, [.tmp 3]⟩
theorem tN_ : av_ prog Tryz.f119 rt_ := aq_
theorem ga_ (a : af_) (j : Int)  (h : List Row) : aa_ prog 119 [.agg (af_.cells a), .iptr [.val (.int .i64 j)]] h (.val (.bool (decide (a.Job = j)))) := by
 refine am_ mixed Tryz.func119 tN_ rfl rfl ?_ h
 simp (disch := omega) only [rt_, uc_, af_.cells, go_sem, reduceEqDiff, Nat.reduceAdd, ↓reduceIte]
 repeat' (first
  | exact ad_ _ _
  | simp (disch := omega) only [go_sem, reduceEqDiff, Nat.reduceAdd, reduceLeDiff, reduceCtorEq, Int.reduceLT, Int.reduceLE, Int.reduceNeg, Int.reduceSub, Int.reduceAdd, Int.reduceToNat, ↓reduceIte]
  | ((first | (apply aD_; assumption) | (apply aE_; assumption) | (apply aL_; assumption) | (apply aJ_; assumption)); intro hb; try simp only [hb])
  | ((first | apply an_ | apply ao_) <;> intro hb <;> (try simp only [hb]) <;> (first | have hp := a4_ hb | have hp := a3_ hb | have hp := a1_ hb | have hp := aZ_ hb | skip)))
def c79 : LC :=
 .q [.o [.bx 3 2 1, .ki 4 0], .o [.m 5 0, .nc 6 5, .fa 7 1 6, .ln 8 7, .s 9 (.mkFunc 119 [] [.tmp 3]), .c2 10 98 8 9, .m 4 10], .ret]
def tr_ : LF := ⟨2, 11, c79, [.tmp 4]⟩
theorem vx_ : av_ prog Tryz.f79 tr_ := aq_
theorem ex_ (x : ac_) (j : Int) (hx : x.Asks.length ≤ 1048576) (h : List Row) : aa_ prog 79 [.iptr (ac_.cells x), .val (.int .i64 j)] h (.val (.int .i64 (aC_ x j))) := by
 refine am_ mixed Tryz.func79 vx_ rfl rfl ?_ h
 have hc : ∀ (H : List Row) (l : Nat) (E : Tag), H[l]? = some ⟨E, 1, [[.val (.int .i64 j)]]⟩ → aa_ prog 98 [.list 0 4 (x.Asks.map af_.cells), .fn 119 [] [.ptr l 1 0 0]] H (.val (.int .i64 (aC_ x j))) := by
  intro H l E hl
  exact kg_ (n := 3) rfl (fun h => e7_ x.Asks (fun a => decide (a.Job = j)) 119 [.iptr [.val (.int .i64 j)]] rfl hx (by kernel_rfl) (fun a _ h => ga_ a j h) h) (cS_ rfl (cr_ (jT_ rfl (cr_ (fU_ hl rfl (Nat.succ_pos _))))))
 simp (disch := omega) only [tr_, c79, ac_.cells, go_sem, reduceEqDiff, Nat.reduceAdd, reduceLeDiff, reduceCtorEq, ↓reduceIte]
 refine aa_.call (hc _ 0 _ rfl) ?_
 simp (disch := omega) only [go_sem, ↓reduceIte]
 exact ad_ _ _
def tL_ : LC :=
 .q [.o [.bx 4 74 0, .f 5], .o [.fa 6 0 4, .ln 7 6, .ln 8 1, .bb 9 .eql false 7 8, .m 10 9, .gf 11 10 true 2 4, .gn 12 10 true 11, .gf 13 10 true 3 4, .gn 14 10 true 13, .gn 15 10 true 2, .gn 16 10 true 3, .g 17 10 true
 (.call 118 [.tmp 12, .tmp 14, .tmp 15, .tmp 16]), .pf 18 10 17, .m 5 18], .ret]
def rk_ : LF := ⟨4, 19, tL_, [.tmp 5]⟩
theorem u3_ : av_ prog Tryz.f148 rk_ := aq_
theorem gj_ (a : ab_) (j : Int) (nm : ByteArray) (s : List ByteArray) (ha : ab_.sz a ≤ 1048576) (hs : s.length ≤ 1048576) (h : List Row) : aa_ prog 148 [.agg (ab_.cells a), .iptr [.val (.int .i64 j)], .iptr [.val (.string nm)], .iptr [.list 0 1 (s.map az_)]] h (.val (.bool (jd_ j nm s a))) := by
 refine am_ mixed Tryz.func148 u3_ rfl rfl ?_ h
 simp (disch := omega) only [rk_, tL_, ab_.cells, go_sem, reduceEqDiff, Nat.reduceAdd, ↓reduceIte]
 repeat' (first
  | exact ad_ _ _
  | (refine ae_ ?_; first | rfl | (simp only [jd_, *, Bool.true_and, Bool.false_and]; done) | (simp [jd_, *]; done))
  | simp (disch := omega) only [go_sem, reduceEqDiff, ↓reduceIte]
  | (refine aa_.call (bR_ _ _ _ _ (ar_ (ab_.sz_Subs ha)) hs _) ?_)
  | (refine aa_.q (bR_ _ _ _ _ (ar_ (ab_.sz_Subs ha)) hs _) ?_)
  | ((first | (apply bd_; assumption) | (apply be_; assumption) | (apply bo_; assumption) | (apply bp_; assumption)); intro hb; try simp only [hb])
  | ((first | (apply aD_; assumption) | (apply aE_; assumption) | (apply aL_; assumption) | (apply aJ_; assumption)); intro hb; try simp only [hb])
  | ((first | apply aF_ | apply aM_ | apply an_ | apply ao_) <;> intro hb <;> (try simp only [hb]) <;> (first | have hp := a4_ hb | have hp := a3_ hb | have hp := a1_ hb | have hp := aZ_ hb | skip)))
def uV_ : LC :=
 .q [.o [.bx 5 2 1, .bx 6 9 2, .bx 7 41 3, .f 8], .o [.m 9 0, .nc 10 9, .fa 11 0 10, .ln 12 11, .s 13 (.mkFunc 148 [] [.tmp 5, .tmp 6, .tmp 7]), .c2 14 116 12 13, .m 8 14], .ret]
def qV_ : LF := ⟨4, 15, uV_, [.tmp 8]⟩
theorem sV_ : av_ prog Tryz.f120 qV_ := aq_
theorem hv_ (x : ac_) (j : Int) (nm : ByteArray) (s : List ByteArray) (hx : ac_.sz x ≤ 1048576) (hs : s.length ≤ 1048576) (h : List Row) : aa_ prog 120 [.iptr (ac_.cells x), .val (.int .i64 j), .val (.string nm), .list 0 1 (s.map az_)] h (.val (.bool (dH_ x j nm s))) := by
 refine am_ mixed Tryz.func120 sV_ rfl rfl ?_ h
 have hlen := ar_ (ac_.sz_Held hx)
 have hmH : ∀ a ∈ x.Held, ab_.sz a ≤ 1048576 := fun a ha => b4_ (ac_.sz_Held hx) ha
 have hc : ∀ (H : List Row), H = [⟨2, 1, [[.val (.int .i64 j)]]⟩, ⟨9, 1, [[.val (.string nm)]]⟩, ⟨41, 1, [[.list 0 1 (s.map az_)]]⟩] → aa_ prog 116 [.list 0 4 (x.Held.map ab_.cells), .fn 148 [] [.ptr 0 1 0 0, .ptr 1 1 0 0, .ptr 2 1 0 0]] H (.val (.bool (dH_ x j nm s))) := by
  rintro H rfl
  exact kg_ (n := 3) rfl (fun h => cI_ x.Held (jd_ j nm s) 148 [.iptr [.val (.int .i64 j)], .iptr [.val (.string nm)], .iptr [.list 0 1 (s.map az_)]] rfl hlen (by kernel_rfl) (fun a ha h => gj_ a j nm s (hmH a ha) hs h) h) (cS_ rfl (cr_ (jT_ rfl (cS_ (fU_ rfl rfl (Nat.succ_pos _)) (cS_ (fU_ rfl rfl (Nat.succ_pos _)) (cr_ (fU_ rfl rfl (Nat.succ_pos _))))))))
 simp (disch := omega) only [qV_, uV_, ac_.cells, go_sem, reduceEqDiff, Nat.reduceAdd, reduceCtorEq, ↓reduceIte]
 refine aa_.call (hc _ rfl) ?_
 simp (disch := omega) only [go_sem, ↓reduceIte]
 exact ad_ _ _
def fS_ (x : ac_) (j : Int) : List af_ := if 0 ≤ aC_ x j then x.Asks.take (aC_ x j).toNat else x.Asks
def bQ_ (x : ac_) (j : Int) (nm : ByteArray) (s : List ByteArray) (l : List af_) : List Int := (l.filter (bE_ x j nm s)).map af_.Job
theorem i1_ (x : ac_) (j : Int) (nm : ByteArray) (s : List ByteArray) (h : ¬ 0 ≤ aC_ x j) : ∀ (l : List af_) (k : Nat), bK_ x j nm s l k = bQ_ x j nm s l
 | [], k => rfl
 | a :: r, k => by
  have hl : gH_ x j k = false := by simp [gH_, h]
  simp only [bK_, hl, Bool.not_false, Bool.and_true, bQ_, filter_cons]
  rw [i1_ x j nm s h r (k + 1)]
  split <;> simp [bQ_]
theorem ir_ (x : ac_) (j : Int) (nm : ByteArray) (s : List ByteArray) (h : 0 ≤ aC_ x j) : ∀ (l : List af_) (k : Nat), aC_ x j < (k : Int) → bK_ x j nm s l k = []
 | [], k, _ => rfl
 | a :: r, k, hk => by
  have hl : gH_ x j k = true := by simp [gH_, h, hk]
  simp only [bK_, hl, Bool.not_true, Bool.and_false, Bool.false_eq_true, if_false]
  exact ir_ x j nm s h r (k + 1) (by omega)
theorem ii_ (x : ac_) (j : Int) (nm : ByteArray) (s : List ByteArray) (h : 0 ≤ aC_ x j) : ∀ (l : List af_) (k n : Nat), k + n = (aC_ x j).toNat → (∀ hn : n < l.length, (l[n]'hn).Job = j) → bK_ x j nm s l k = bQ_ x j nm s (l.take n)
 | [], k, n, _, _ => by simp [bK_, bQ_]
 | a :: r, k, 0, hk, hj => by
  have hja : a.Job = j := hj (by simp)
  have : bE_ x j nm s a = false := by simp [bE_, hja]
  simp only [bK_, this, Bool.false_and, Bool.false_eq_true, if_false]
  rw [ir_ x j nm s h r (k + 1) (by omega)]; rfl
 | a :: r, k, n + 1, hk, hj => by
  have hl : gH_ x j k = false := by
   simp only [gH_, Bool.and_eq_false_iff, decide_eq_false_iff_not]; right; omega
  simp only [bK_, hl, Bool.not_false, Bool.and_true, take_succ_cons, bQ_, filter_cons]
  rw [ii_ x j nm s h r (k + 1) n (by omega) (fun hn => by have := hj (by simpa using hn); simpa using this)]
  split <;> simp [bQ_]
theorem gu_ (x : ac_) (j : Int) (h : 0 ≤ aC_ x j) : ∃ hn : (aC_ x j).toNat < x.Asks.length, (x.Asks[(aC_ x j).toNat]'hn).Job = j := by
 rcases l3_ (fun a : af_ => decide (a.Job = j)) x.Asks 0 with ⟨h1, _⟩ | ⟨i, hi, h1, h2⟩
 ·unfold aC_ at h; rw [h1] at h; simp at h
 ·have e : aC_ x j = (i : Int) := by unfold aC_; rw [h1]; simp
  have e2 : (aC_ x j).toNat = i := by rw [e]; simp
  have hp := find?_some h2
  refine ⟨by omega, ?_⟩
  simp only [e2]
  simpa using hp
theorem mq_ (x : ac_) (j : Int) (nm : ByteArray) (s : List ByteArray) : fg_ x j nm s = b0_ j nm s x.Held ++ bQ_ x j nm s (fS_ x j) := by
 unfold fg_ fS_
 congr 1
 by_cases h : 0 ≤ aC_ x j
 ·rw [if_pos h]
  obtain ⟨hn, hj⟩ := gu_ x j h
  exact ii_ x j nm s h x.Asks 0 _ (by simp) (fun _ => hj)
 ·rw [if_neg h]; exact i1_ x j nm s h x.Asks 0
theorem kR_ (x : ac_) (j : Int) (nm : ByteArray) (s : List ByteArray) (l : List af_) (k : Nat) (h : k < l.length) : bQ_ x j nm s (l.drop k) = if bE_ x j nm s l[k] then l[k].Job :: bQ_ x j nm s (l.drop (k + 1)) else bQ_ x j nm s (l.drop (k + 1)) := by
 rw [drop_eq_getElem_cons h]
 simp only [bQ_, filter_cons]
 split <;> simp
theorem jW_ (x : ac_) (j : Int) (nm : ByteArray) (s : List ByteArray) (l : List af_) (k : Nat) (h : l.length ≤ k) : bQ_ x j nm s (l.drop k) = [] := by
 rw [drop_eq_nil_of_le h]; rfl
def e9_ (x : ac_) (j : Int) (nm : ByteArray) (s : List ByteArray) : List Int := aV_ (bJ_ (fg_ x j nm s))
theorem lr_ (x : ac_) (k : Nat) : ((x.Asks.map af_.cells).take k).drop 0 = (x.Asks.take k).map af_.cells := by rw [drop_zero, map_take]
def c80 : LC :=
 .q [.o [.nl 8], .o [.s 16 (.buildSlice 2 1 (.int .i64 0) 0 []), .m 9 16], .q [.o [.m 17 0, .nc 18 17, .fa 19 0 18, .ln 20 19, .ll 21 20, .ki 22 0], .block 0 (.loop (.q [.o [.bb 23 .lss false 22 21], .k 23 .skip (.exit
 0), .block 1 (.q [.o [.ia 24 4 20 22, .ld 25 4 24, .s 11 (.alloc 74 (.agg #[.int .i64 0, .int .i64 0, .string ⟨#[]⟩, .slice none 0 0])), .st 4 11 25], .o [.fa 26 0 11, .ln 27 26, .m 28 1, .bb 29 .neq false 27 28, .m 30
 29, .gf 31 30 true 2 11, .gn 32 30 true 31, .gf 33 30 true 3 11, .gn 34 30 true 33, .gm 35 30 true 2, .gm 36 30 true 3, .g 37 30 true (.call 118 [.tmp 32, .tmp 34, .tmp 35, .tmp 36]), .pf 38 30 37], .k 38 (.o [.m 39 9,
 .fa 40 0 11, .ln 41 40, .s 42 (.buildSlice 2 1 (.int .i64 0) 1 [(0, .tmp 41)]), .ap 43 2 1 8 39 42, .m 9 43]) .skip]), .o [.bk 44 .add false 22 1, .m 22 44]]))], .o [.m 45 0, .nc 46 45, .fa 47 1 46, .ln 48 47, .m 12 48],
 .q [.o [.m 49 0, .m 50 1, .c2 51 79 49 50, .m 13 51], .o [.m 52 13, .bk 53 .geq false 52 0], .k 53 (.o [.m 54 0, .nc 55 54, .fa 56 1 55, .ln 57 56, .m 58 13, .s 59 (.sliceSl 4 (.tmp 57) none (some (.tmp 58))), .m 12 59])
 .skip], .q [.o [.m 60 12, .ll 61 60, .ki 62 0], .block 2 (.loop (.q [.o [.bb 63 .lss false 62 61], .k 63 .skip (.exit 2), .block 3 (.q [.o [.ia 64 4 60 62, .ld 65 4 64, .s 15 (.alloc 64 (.agg #[.int .i64 0, .int .i64 0,
 .string ⟨#[]⟩, .slice none 0 0])), .st 4 15 65], .o [.fa 66 0 15, .ln 67 66, .m 68 1, .bb 69 .neq false 67 68, .m 70 69, .gf 71 70 true 2 15, .gn 72 70 true 71, .gf 73 70 true 3 15, .gn 74 70 true 73, .gm 75 70 true 2,
 .gm 76 70 true 3, .g 77 70 true (.call 118 [.tmp 72, .tmp 74, .tmp 75, .tmp 76]), .pf 78 70 77, .m 79 78, .gm 80 79 true 0, .gm 81 79 true 1, .gf 82 79 true 2 15, .gn 83 79 true 82, .gf 84 79 true 3 15, .gn 85 79 true
 84, .g 86 79 true (.call 120 [.tmp 80, .tmp 81, .tmp 83, .tmp 85]), .gu 87 79 true 86, .pf 88 79 87], .k 88 (.o [.m 89 9, .fa 90 0 15, .ln 91 90, .s 92 (.buildSlice 2 1 (.int .i64 0) 1 [(0, .tmp 91)]), .ap 93 2 1 8 89
 92, .m 9 93]) .skip]), .o [.bk 94 .add false 62 1, .m 62 94]]))], .o [.m 95 9, .c1 96 45 95], .o [.m 97 9, .c1 98 121 97, .m 8 98], .ret]
def tb_ : LF := ⟨4, 99, c80, [.tmp 8]⟩
theorem vG_ : av_ Tryz.prog Tryz.f80 tb_ := aq_
theorem f9_ (x : ac_) (j : Int) (nm : ByteArray) (s : List ByteArray) (hx : ac_.sz x ≤ 1048576) (hs : s.length ≤ 1048576) : bb_ Tryz.prog 80 [.iptr (ac_.cells x), .val (.int .i64 j), .val (.string nm), .list 0 1 (s.map az_)] (.list 0 1 (ak_ (e9_ x j nm s))) (fun a => ∃ (k : Nat) (b : AV), True ∧ a = b.shift k) := by
 refine kI_ mixed Tryz.func80 vG_ rfl rfl ?_
 have hlen := ar_ (ac_.sz_Held hx)
 have hlenA := ar_ (ac_.sz_Asks hx)
 have hmH : ∀ a ∈ x.Held, ab_.sz a ≤ 1048576 := fun a ha => b4_ (ac_.sz_Held hx) ha
 have hmA : ∀ a ∈ x.Asks, af_.sz a ≤ 1048576 := fun a ha => b4_ (ac_.sz_Asks hx) ha
 have hcells : ac_.cells x = [.list 0 4 (x.Held.map ab_.cells), .list 0 4 (x.Asks.map af_.cells)] := rfl
 simp (disch := omega) only [tb_, c80, hcells, go_sem, Nat.reduceAdd, reduceCtorEq, ↓reduceIte]
 refine ay_ (fun m t h => ∃ (k : Nat) (out : List Int) (rest : List Row), t 0 = .iptr [.list 0 4 (x.Held.map ab_.cells), .list 0 4 (x.Asks.map af_.cells)] ∧ t 1 = .val (.int .i64 j) ∧ t 2 = .val (.string nm) ∧ t 3 = .list 0 1 (s.map az_) ∧ t 9 = .own 0 out.length ∧ t 20 = .list 0 4 (x.Held.map ab_.cells) ∧ t 21 = .val (.int .i64 x.Held.length) ∧ t 22 = .val (.int .i64 k) ∧ h = ⟨.ty 2, 1, ak_ out⟩ :: rest ∧ m = x.Held.length - k ∧ k ≤ x.Held.length ∧ out.length ≤ k ∧ b0_ j nm s x.Held = out ++ b0_ j nm s (x.Held.drop k)) x.Held.length ⟨0, [], [], rfl, rfl, rfl, rfl, rfl, rfl, rfl, rfl, rfl, rfl, Nat.zero_le _, by simp, rfl⟩ ?_
 rintro J hJ m t h ⟨k, out, rest, t0, t1, t2, t3, t9, t20, t21, t22, rfl, rfl, hk, ho, hS⟩
 by_cases hlt : k < x.Held.length
 ·rw [iS_ _ _ _ _ _ hlt] at hS
  have hck := hmH _ (getElem_mem hlt)
  have next : ∀ (t' : Nat → AV) (out' : List Int) (rest' : List Row), t' 0 = t 0 → t' 1 = t 1 → t' 2 = t 2 → t' 3 = t 3 → t' 9 = .own 0 out'.length → t' 20 = t 20 → t' 21 = t 21 → t' 22 = .val (.int .i64 (k + 1 : Nat)) → out'.length ≤ k + 1 → b0_ j nm s x.Held = out' ++ b0_ j nm s (x.Held.drop (k + 1)) → ∃ m, m < x.Held.length - k ∧ J m t' (⟨.ty 2, 1, ak_ out'⟩ :: rest') :=
   fun t' out' rest' e0 e1 e2 e3 e9 e20 e21 e22 e e' => ⟨x.Held.length - (k + 1), by omega, hJ _ _ _ ⟨k + 1, out', rest', e0.trans t0, e1.trans t1, e2.trans t2, e3.trans t3, e9, e20.trans t20, e21.trans t21, e22, rfl, rfl, by omega, e, e'⟩⟩
  by_cases hj : x.Held[k].Job = j
  ·have hj' : (x.Held[k].Job = j) = True := eq_true hj
   simp (disch := omega) only [t1, t20, t21, t22, hlt, cV_, hj', go_sem, reduceEqDiff, Nat.reduceAdd, ↓reduceIte]
   refine next _ out _ (by simp [upd]) (by simp [upd]) (by simp [upd]) (by simp [upd]) (by simp [upd, t9]) (by simp [upd]) (by simp [upd]) (by simp [upd]) (by omega) ?_
   rw [hS, show d6_ j nm s x.Held[k] = false by simp [d6_, hj]]; rfl
  ·have hj' : (x.Held[k].Job = j) = False := eq_false hj
   simp (disch := omega) only [t1, t2, t3, t20, t21, t22, hlt, cV_, hj', go_sem, reduceEqDiff, Nat.reduceAdd, ↓reduceIte]
   refine aa_.call (bR_ _ _ _ _ (ar_ (ab_.sz_Subs hck)) hs _) ?_
   by_cases hw : way x.Held[k].Name x.Held[k].Subs nm s = true
   ·simp (disch := omega) only [t9, t22, hw, go_sem, reduceEqDiff, reduceLeDiff, ↓reduceIte]
    refine ⟨by omega, by omega, ?_⟩
    refine next _ (out ++ [x.Held[k].Job]) _ (by simp [upd]) (by simp [upd]) (by simp [upd]) (by simp [upd]) (by simp [upd]) (by simp [upd]) (by simp [upd]) (by simp [upd]) (by simp; omega) ?_
    rw [hS, show d6_ j nm s x.Held[k] = true by simp [d6_, hj, hw]]; simp
   ·have hw' : way x.Held[k].Name x.Held[k].Subs nm s = false := by simpa using hw
    simp (disch := omega) only [t22, hw', go_sem, reduceEqDiff, ↓reduceIte]
    refine next _ out _ (by simp [upd]) (by simp [upd]) (by simp [upd]) (by simp [upd]) (by simp [upd, t9]) (by simp [upd]) (by simp [upd]) (by simp [upd]) (by omega) ?_
    rw [hS, show d6_ j nm s x.Held[k] = false by simp [d6_, hw']]; rfl
 ·rw [ie_ _ _ _ _ _ (by omega), append_nil] at hS
  have hblk : ∀ (n' : ByteArray) (s' : List ByteArray) (H : List Row), s'.length ≤ 1048576 → aa_ Tryz.prog 120 [.iptr [.list 0 4 (x.Held.map ab_.cells), .list 0 4 (x.Asks.map af_.cells)], .val (.int .i64 j), .val (.string n'), .list 0 1 (s'.map az_)] H (.val (.bool (dH_ x j n' s'))) := fun n' s' H hs' => hv_ x j n' s' hx hs' H
  simp (disch := omega) only [t0, t1, t21, t22, hlt, go_sem, reduceEqDiff, Nat.reduceAdd, reduceLeDiff, reduceCtorEq, ↓reduceIte]
  refine aa_.call (ex_ x j hlenA _) ?_
  by_cases hown : 0 ≤ aC_ x j
  ·obtain ⟨hn, _⟩ := gu_ x j hown
   have hle : (aC_ x j).toNat ≤ x.Asks.length := by omega
   have hlei : aC_ x j ≤ (x.Asks.length : Int) := by omega
   have he : fS_ x j = x.Asks.take (aC_ x j).toNat := by unfold fS_; rw [if_pos hown]
   have hel : (x.Asks.take (aC_ x j).toNat).length = (aC_ x j).toNat := by rw [length_take]; omega
   simp (disch := omega) only [t0, hown, hle, lr_, go_sem, reduceEqDiff, Nat.reduceAdd, reduceLeDiff, reduceCtorEq, ↓reduceIte]
   have hmA' : ∀ a ∈ x.Asks.take (aC_ x j).toNat, af_.sz a ≤ 1048576 := fun a ha => hmA a (mem_of_mem_take ha)
   refine ay_ (fun m t h => ∃ (k : Nat) (out' : List Int) (rest : List Row), t 0 = .iptr [.list 0 4 (x.Held.map ab_.cells), .list 0 4 (x.Asks.map af_.cells)] ∧ t 1 = .val (.int .i64 j) ∧ t 2 = .val (.string nm) ∧ t 3 = .list 0 1 (s.map az_) ∧ t 9 = .own 0 out'.length ∧ t 60 = .list 0 4 ((x.Asks.take (aC_ x j).toNat).map af_.cells) ∧ t 61 = .val (.int .i64 (x.Asks.take (aC_ x j).toNat).length) ∧ t 62 = .val (.int .i64 k) ∧ h = ⟨.ty 2, 1, ak_ out'⟩ :: rest ∧ m = (x.Asks.take (aC_ x j).toNat).length - k ∧ k ≤ (x.Asks.take (aC_ x j).toNat).length ∧ out'.length ≤ 1048576 + k ∧ out ++ bQ_ x j nm s (x.Asks.take (aC_ x j).toNat) = out' ++ bQ_ x j nm s ((x.Asks.take (aC_ x j).toNat).drop k)) (x.Asks.take (aC_ x j).toNat).length ⟨0, out, rest, by simp [upd, t0], by simp [upd, t1], by simp [upd, t2], by simp [upd, t3], by simp [upd, t9], by simp [upd], by simp [upd], by simp [upd], rfl, rfl, Nat.zero_le _, by omega, rfl⟩ ?_
   clear t0 t1 t2 t3 t9 t20 t21 t22 hJ
   rintro J2 hJ m t h ⟨k, out', rest, t0, t1, t2, t3, t9, t60, t61, t62, rfl, rfl, hk, ho', hS'⟩
   by_cases hlt : k < (x.Asks.take (aC_ x j).toNat).length
   ·rw [kR_ _ _ _ _ _ _ hlt] at hS'
    have hck := hmA' _ (getElem_mem hlt)
    have next : ∀ (t' : Nat → AV) (o : List Int) (rest' : List Row), t' 0 = t 0 → t' 1 = t 1 → t' 2 = t 2 → t' 3 = t 3 → t' 9 = .own 0 o.length → t' 60 = t 60 → t' 61 = t 61 → t' 62 = .val (.int .i64 (k + 1 : Nat)) → o.length ≤ 1048576 + (k + 1) → out ++ bQ_ x j nm s (x.Asks.take (aC_ x j).toNat) = o ++ bQ_ x j nm s ((x.Asks.take (aC_ x j).toNat).drop (k + 1)) → ∃ m, m < (x.Asks.take (aC_ x j).toNat).length - k ∧ J2 m t' (⟨.ty 2, 1, ak_ o⟩ :: rest') :=
     fun t' o rest' e0 e1 e2 e3 e9 e20 e21 e22 e e' => ⟨(x.Asks.take (aC_ x j).toNat).length - (k + 1), by omega, hJ _ _ _ ⟨k + 1, o, rest', e0.trans t0, e1.trans t1, e2.trans t2, e3.trans t3, e9, e20.trans t60, e21.trans t61, e22, rfl, rfl, by omega, e, e'⟩⟩
    by_cases hj : (x.Asks.take (aC_ x j).toNat)[k].Job = j
    ·have hj' : ((x.Asks.take (aC_ x j).toNat)[k].Job = j) = True := eq_true hj
     simp (disch := omega) only [t1, t60, t61, t62, hlt, dr_, hj', go_sem, reduceEqDiff, Nat.reduceAdd, ↓reduceIte]
     refine next _ out' _ (by simp [upd]) (by simp [upd]) (by simp [upd]) (by simp [upd]) (by simp [upd, t9]) (by simp [upd]) (by simp [upd]) (by simp [upd]) (by omega) ?_
     rw [hS', show bE_ x j nm s (x.Asks.take (aC_ x j).toNat)[k] = false by simp [bE_, hj, -getElem_take]]; rfl
    ·have hj' : ((x.Asks.take (aC_ x j).toNat)[k].Job = j) = False := eq_false hj
     simp (disch := omega) only [t1, t2, t3, t60, t61, t62, hlt, dr_, hj', go_sem, reduceEqDiff, Nat.reduceAdd, ↓reduceIte]
     refine aa_.call (bR_ _ _ _ _ (ar_ (af_.sz_Subs hck)) hs _) ?_
     by_cases hw : way (x.Asks.take (aC_ x j).toNat)[k].Name (x.Asks.take (aC_ x j).toNat)[k].Subs nm s = true
     ·simp (disch := omega) only [t0, t1, hw, go_sem, reduceEqDiff, reduceCtorEq, ↓reduceIte]
      refine aa_.call (hblk _ _ _ (ar_ (af_.sz_Subs hck))) ?_
      by_cases hb : dH_ x j (x.Asks.take (aC_ x j).toNat)[k].Name (x.Asks.take (aC_ x j).toNat)[k].Subs = true
      ·simp (disch := omega) only [t62, hb, go_sem, reduceEqDiff, ↓reduceIte]
       refine next _ out' _ (by simp [upd]) (by simp [upd]) (by simp [upd]) (by simp [upd]) (by simp [upd, t9]) (by simp [upd]) (by simp [upd]) (by simp [upd]) (by omega) ?_
       rw [hS', show bE_ x j nm s (x.Asks.take (aC_ x j).toNat)[k] = false by simp [bE_, hb, -getElem_take]]; rfl
      ·have hb' : dH_ x j (x.Asks.take (aC_ x j).toNat)[k].Name (x.Asks.take (aC_ x j).toNat)[k].Subs = false := by simpa using hb
       simp (disch := omega) only [t9, t62, hb', go_sem, reduceEqDiff, reduceLeDiff, ↓reduceIte]
       refine ⟨by omega, by omega, ?_⟩
       refine next _ (out' ++ [(x.Asks.take (aC_ x j).toNat)[k].Job]) _ (by simp [upd]) (by simp [upd]) (by simp [upd]) (by simp [upd]) (by simp [upd]) (by simp [upd]) (by simp [upd]) (by simp [upd]) (by simp; omega) ?_
       rw [hS', show bE_ x j nm s (x.Asks.take (aC_ x j).toNat)[k] = true by simp [bE_, hj, hw, hb', -getElem_take]]; simp [-getElem_take]
     ·have hw' : way (x.Asks.take (aC_ x j).toNat)[k].Name (x.Asks.take (aC_ x j).toNat)[k].Subs nm s = false := by simpa using hw
      simp (disch := omega) only [t62, hw', go_sem, reduceEqDiff, ↓reduceIte]
      refine next _ out' _ (by simp [upd]) (by simp [upd]) (by simp [upd]) (by simp [upd]) (by simp [upd, t9]) (by simp [upd]) (by simp [upd]) (by simp [upd]) (by omega) ?_
      rw [hS', show bE_ x j nm s (x.Asks.take (aC_ x j).toNat)[k] = false by simp [bE_, hw', -getElem_take]]; rfl
   ·rw [jW_ _ _ _ _ _ _ (by omega), append_nil] at hS'
    have hfr : fg_ x j nm s = out' := by rw [mq_, he, hS, hS']
    simp (disch := omega) only [t9, t61, t62, hlt, go_sem, reduceEqDiff, ↓reduceIte]
    refine dm_ rfl (by omega) ?_
    have hsl : (bJ_ out').length = out'.length := dC_ out'
    simp (disch := omega) only [t9, go_sem, reduceEqDiff, ↓reduceIte]
    rw [← hsl]
    refine d7_ (by omega) rfl ?_
    intro a r' hr hfb
    simp (disch := omega) only [go_sem, ↓reduceIte]
    rw [e9_, hfr]
    first | exact gh_ hfb (by simp) | exact ⟨gh_ hfb (by simp), trivial⟩
  ·simp (disch := omega) only [hown, go_sem, reduceEqDiff, ↓reduceIte]
   have hmA' := hmA
   have he : fS_ x j = x.Asks := by unfold fS_; rw [if_neg hown]
   refine ay_ (fun m t h => ∃ (k : Nat) (out' : List Int) (rest : List Row), t 0 = .iptr [.list 0 4 (x.Held.map ab_.cells), .list 0 4 (x.Asks.map af_.cells)] ∧ t 1 = .val (.int .i64 j) ∧ t 2 = .val (.string nm) ∧ t 3 = .list 0 1 (s.map az_) ∧ t 9 = .own 0 out'.length ∧ t 60 = .list 0 4 ((x.Asks).map af_.cells) ∧ t 61 = .val (.int .i64 (x.Asks).length) ∧ t 62 = .val (.int .i64 k) ∧ h = ⟨.ty 2, 1, ak_ out'⟩ :: rest ∧ m = (x.Asks).length - k ∧ k ≤ (x.Asks).length ∧ out'.length ≤ 1048576 + k ∧ out ++ bQ_ x j nm s (x.Asks) = out' ++ bQ_ x j nm s ((x.Asks).drop k)) (x.Asks).length ⟨0, out, rest, by simp [upd, t0], by simp [upd, t1], by simp [upd, t2], by simp [upd, t3], by simp [upd, t9], by simp [upd], by simp [upd], by simp [upd], rfl, rfl, Nat.zero_le _, by omega, rfl⟩ ?_
   clear t0 t1 t2 t3 t9 t20 t21 t22 hJ
   rintro J2 hJ m t h ⟨k, out', rest, t0, t1, t2, t3, t9, t60, t61, t62, rfl, rfl, hk, ho', hS'⟩
   by_cases hlt : k < (x.Asks).length
   ·rw [kR_ _ _ _ _ _ _ hlt] at hS'
    have hck := hmA' _ (getElem_mem hlt)
    have next : ∀ (t' : Nat → AV) (o : List Int) (rest' : List Row), t' 0 = t 0 → t' 1 = t 1 → t' 2 = t 2 → t' 3 = t 3 → t' 9 = .own 0 o.length → t' 60 = t 60 → t' 61 = t 61 → t' 62 = .val (.int .i64 (k + 1 : Nat)) → o.length ≤ 1048576 + (k + 1) → out ++ bQ_ x j nm s (x.Asks) = o ++ bQ_ x j nm s ((x.Asks).drop (k + 1)) → ∃ m, m < (x.Asks).length - k ∧ J2 m t' (⟨.ty 2, 1, ak_ o⟩ :: rest') :=
     fun t' o rest' e0 e1 e2 e3 e9 e20 e21 e22 e e' => ⟨(x.Asks).length - (k + 1), by omega, hJ _ _ _ ⟨k + 1, o, rest', e0.trans t0, e1.trans t1, e2.trans t2, e3.trans t3, e9, e20.trans t60, e21.trans t61, e22, rfl, rfl, by omega, e, e'⟩⟩
    by_cases hj : (x.Asks)[k].Job = j
    ·have hj' : ((x.Asks)[k].Job = j) = True := eq_true hj
     simp (disch := omega) only [t1, t60, t61, t62, hlt, dr_, hj', go_sem, reduceEqDiff, Nat.reduceAdd, ↓reduceIte]
     refine next _ out' _ (by simp [upd]) (by simp [upd]) (by simp [upd]) (by simp [upd]) (by simp [upd, t9]) (by simp [upd]) (by simp [upd]) (by simp [upd]) (by omega) ?_
     rw [hS', show bE_ x j nm s (x.Asks)[k] = false by simp [bE_, hj, -getElem_take]]; rfl
    ·have hj' : ((x.Asks)[k].Job = j) = False := eq_false hj
     simp (disch := omega) only [t1, t2, t3, t60, t61, t62, hlt, dr_, hj', go_sem, reduceEqDiff, Nat.reduceAdd, ↓reduceIte]
     refine aa_.call (bR_ _ _ _ _ (ar_ (af_.sz_Subs hck)) hs _) ?_
     by_cases hw : way (x.Asks)[k].Name (x.Asks)[k].Subs nm s = true
     ·simp (disch := omega) only [t0, t1, hw, go_sem, reduceEqDiff, reduceCtorEq, ↓reduceIte]
      refine aa_.call (hblk _ _ _ (ar_ (af_.sz_Subs hck))) ?_
      by_cases hb : dH_ x j (x.Asks)[k].Name (x.Asks)[k].Subs = true
      ·simp (disch := omega) only [t62, hb, go_sem, reduceEqDiff, ↓reduceIte]
       refine next _ out' _ (by simp [upd]) (by simp [upd]) (by simp [upd]) (by simp [upd]) (by simp [upd, t9]) (by simp [upd]) (by simp [upd]) (by simp [upd]) (by omega) ?_
       rw [hS', show bE_ x j nm s (x.Asks)[k] = false by simp [bE_, hb, -getElem_take]]; rfl
      ·have hb' : dH_ x j (x.Asks)[k].Name (x.Asks)[k].Subs = false := by simpa using hb
       simp (disch := omega) only [t9, t62, hb', go_sem, reduceEqDiff, reduceLeDiff, ↓reduceIte]
       refine ⟨by omega, by omega, ?_⟩
       refine next _ (out' ++ [(x.Asks)[k].Job]) _ (by simp [upd]) (by simp [upd]) (by simp [upd]) (by simp [upd]) (by simp [upd]) (by simp [upd]) (by simp [upd]) (by simp [upd]) (by simp; omega) ?_
       rw [hS', show bE_ x j nm s (x.Asks)[k] = true by simp [bE_, hj, hw, hb', -getElem_take]]; simp [-getElem_take]
     ·have hw' : way (x.Asks)[k].Name (x.Asks)[k].Subs nm s = false := by simpa using hw
      simp (disch := omega) only [t62, hw', go_sem, reduceEqDiff, ↓reduceIte]
      refine next _ out' _ (by simp [upd]) (by simp [upd]) (by simp [upd]) (by simp [upd]) (by simp [upd, t9]) (by simp [upd]) (by simp [upd]) (by simp [upd]) (by omega) ?_
      rw [hS', show bE_ x j nm s (x.Asks)[k] = false by simp [bE_, hw', -getElem_take]]; rfl
   ·rw [jW_ _ _ _ _ _ _ (by omega), append_nil] at hS'
    have hfr : fg_ x j nm s = out' := by rw [mq_, he, hS, hS']
    simp (disch := omega) only [t9, t61, t62, hlt, go_sem, reduceEqDiff, ↓reduceIte]
    refine dm_ rfl (by omega) ?_
    have hsl : (bJ_ out').length = out'.length := dC_ out'
    simp (disch := omega) only [t9, go_sem, reduceEqDiff, ↓reduceIte]
    rw [← hsl]
    refine d7_ (by omega) rfl ?_
    intro a r' hr hfb
    simp (disch := omega) only [go_sem, ↓reduceIte]
    rw [e9_, hfr]
    first | exact gh_ hfb (by simp) | exact ⟨gh_ hfb (by simp), trivial⟩
theorem nB_ (x : ac_) (j : Int) (nm : ByteArray) (s : List ByteArray) : hk_ x j nm s = e9_ x j nm s := (lO_ (fg_ x j nm s)).symm
def bk_ (x : ac_) (j : Int) : List Int := match x.Asks[(aC_ x j).toNat]? with | some a => if 0 ≤ aC_ x j then e9_ x j a.Name a.Subs else [] | none => []
theorem kP_ {x : ac_} {j : Int} (h : ¬ 0 ≤ aC_ x j) : bk_ x j = [] := by unfold bk_; split <;> simp [h]
theorem j1_ {x : ac_} {j : Int} (h : 0 ≤ aC_ x j) (hn : (aC_ x j).toNat < x.Asks.length) : bk_ x j = e9_ x j (x.Asks[(aC_ x j).toNat]).Name (x.Asks[(aC_ x j).toNat]).Subs := by
 unfold bk_; rw [getElem?_eq_getElem hn]; simp [h]
def c38 : LC :=
 .q [.o [.nl 4], .o [.m 6 0, .m 7 1, .c2 8 79 6 7, .m 5 8], .q [.o [.m 9 5, .bk 10 .lss false 9 0], .k 10 (.q [.o [.nl 4], .ret]) .skip], .gops [.m 11 0, .m 12 1, .m 13 0, .nc 14 13, .fa 15 1 14, .ln 16 15, .m 17 5, .ia
 18 4 16 17, .fa 19 2 18, .ln 20 19, .m 21 0, .nc 22 21, .fa 23 1 22, .ln 24 23, .m 25 5, .ia 26 4 24 25, .fa 27 3 26, .ln 28 27] [(.s 29 (.call 80 [.tmp 11, .tmp 12, .tmp 20, .tmp 28]), []), (.m 4 29, [])], .ret]
def tx_ : LF := ⟨2, 30, c38, [.tmp 4]⟩
theorem vt_ : av_ Tryz.prog Tryz.f38 tx_ := kl_
def c33 : LC :=
 .q [.o [.bx 2 32 0, .nl 4], .o [.ld 6 2 2, .m 7 1, .c2 8 73 6 7, .m 5 8], .q [.o [.m 9 5, .bk 10 .lss false 9 0], .k 10 (.q [.o [.s 11 (.buildSlice 2 1 (.int .i64 0) 0 []), .m 4 11], .ret]) .skip], .gops [.ld 12 2 2, .m
 13 1, .fa 14 1 2, .ln 15 14, .m 16 5, .ia 17 4 15 16, .fa 18 2 17, .ln 19 18, .fa 20 1 2, .ln 21 20, .m 22 5, .ia 23 4 21 22, .fa 24 3 23, .ln 25 24] [(.s 26 (.call 74 [.tmp 12, .tmp 13, .tmp 19, .tmp 25]), []), (.m 4
 26, [])], .ret]
def uv_ : LF := ⟨2, 27, c33, [.tmp 4]⟩
theorem vs_ : av_ Tryz.prog Tryz.f33 uv_ := kl_
theorem fH_ (x : ac_) (j : Int) (hx : ac_.sz x ≤ 1048576) : bb_ Tryz.prog 38 [.iptr (ac_.cells x), .val (.int .i64 j)] (.list 0 1 (ak_ (bk_ x j))) (fun a => True) := by
 refine gx_ mixed Tryz.func38 vt_ rfl (fun h0 => ?_)
 have hlenA := ar_ (ac_.sz_Asks hx)
 have hmA : ∀ a ∈ x.Asks, af_.sz a ≤ 1048576 := fun a ha => b4_ (ac_.sz_Asks hx) ha
 simp (disch := omega) only [tx_, c38, ac_.cells, go_sem, reduceEqDiff, reduceCtorEq, ↓reduceIte]
 refine aa_.call (ex_ x j hlenA _) ?_
 by_cases hq : 0 ≤ aC_ x j
 ·obtain ⟨hn, _⟩ := gu_ x j hq
  have hlt : ((aC_ x j) < 0) = False := eq_false (by omega)
  simp (disch := omega) only [hlt, hq, dr_, aw_, go_sem, reduceEqDiff, Nat.reduceAdd, reduceLeDiff, reduceCtorEq, ↓reduceIte]
  rw [j1_ hq hn]
  refine fc_ (f9_ x j _ _ hx (ar_ (af_.sz_Subs (hmA _ (getElem_mem hn))))) (fun av H1 m1 F1 q1 => ?_)
  simp (disch := omega) only [go_sem, ↓reduceIte]
  exact ⟨m1, F1.tree⟩
 ·have hlt : ((aC_ x j) < 0) = True := eq_true (by omega)
  simp (disch := omega) only [hlt, aw_, go_sem, reduceEqDiff, Nat.reduceAdd, reduceLeDiff, reduceCtorEq, ↓reduceIte]
  rw [kP_ hq]
  exact ⟨a5_.refl _, aP_.mknil _ _ _ 1⟩
theorem h5_ (x : ac_) (j : Int) (hx : ac_.sz x ≤ 1048576) : bb_ Tryz.prog 33 [.agg (ac_.cells x), .val (.int .i64 j)] (.list 0 1 (ak_ (bk_ x j))) (fun a => ∃ l n, a = .own l n) := by
 refine gx_ mixed Tryz.func33 vs_ rfl (fun h0 => ?_)
 have hlenA := ar_ (ac_.sz_Asks hx)
 have hmA : ∀ a ∈ x.Asks, af_.sz a ≤ 1048576 := fun a ha => b4_ (ac_.sz_Asks hx) ha
 simp (disch := omega) only [uv_, c33, ac_.cells, go_sem, reduceEqDiff, Nat.reduceAdd, ↓reduceIte]
 refine aa_.call (e2_ x j hlenA _) ?_
 by_cases hq : 0 ≤ aC_ x j
 ·obtain ⟨hn, _⟩ := gu_ x j hq
  have hlt : ((aC_ x j) < 0) = False := eq_false (by omega)
  simp (disch := omega) only [hlt, hq, dr_, aw_, go_sem, reduceEqDiff, Nat.reduceAdd, reduceLeDiff, ↓reduceIte]
  rw [j1_ hq hn, ← nB_]
  refine fc_ (hP_ x j _ _ hx (ar_ (af_.sz_Subs (hmA _ (getElem_mem hn))))) (fun av H1 m1 F1 q1 => ?_)
  have p1 := m1.at (i := h0.length) (by rw [cW_]; rfl)
  have v1 := fun l => bt_ (l := l) p1
  simp (disch := omega) only [go_sem, ↓reduceIte]
  obtain ⟨kk, b, ⟨l, n, rfl⟩, rfl⟩ := q1
  exact ⟨⟨(a5_.app _ _).trans m1, F1.tree.widen (by simp) (Nat.le_refl _)⟩, _, _, rfl⟩
 ·have hlt : ((aC_ x j) < 0) = True := eq_true (by omega)
  simp (disch := omega) only [hlt, aw_, go_sem, reduceEqDiff, Nat.reduceAdd, ↓reduceIte]
  rw [kP_ hq]
  exact ⟨⟨a5_.app _ _, (bO_.ofInts (zs := []) (E := 2) (l := h0.length + 1) (by rw [rm_]; rfl) (by omega)).b⟩, _, _, rfl⟩
theorem if_ (x : ac_) (j : Int) (nm : ByteArray) (s : List ByteArray) : ∀ (l : List af_) (k : Nat), (bK_ x j nm s l k).length ≤ l.length
 | [], _ => Nat.le_refl _
 | a :: r, k => by
  have := if_ x j nm s r (k + 1)
  simp only [bK_]
  split <;> simp only [lc_] <;> omega
theorem n1_ (x : ac_) (j : Int) (nm : ByteArray) (s : List ByteArray) : (fg_ x j nm s).length ≤ x.Held.length + x.Asks.length := by
 have h1 := if_ x j nm s x.Asks 0
 have h2 : (b0_ j nm s x.Held).length ≤ x.Held.length := by
  unfold b0_; rw [length_map]; exact length_filter_le _ _
 unfold fg_; rw [la_]; omega
theorem ml_ (x : ac_) (j : Int) (nm : ByteArray) (s : List ByteArray) : (e9_ x j nm s).length ≤ x.Held.length + x.Asks.length := by
 have h1 := hS_ (bJ_ (fg_ x j nm s))
 rw [dC_] at h1
 exact Nat.le_trans h1 (n1_ x j nm s)
theorem iW_ (x : ac_) (j : Int) : (bk_ x j).length ≤ x.Held.length + x.Asks.length := by
 unfold bk_
 split
 ·split
  ·exact ml_ _ _ _ _
  ·simp
 ·simp
theorem i7_ (zs : List Int) : ∀ e ∈ ak_ zs, e.all AV.cell = true := by
 intro e he
 obtain ⟨x, _, q⟩ := mem_map.1 he; subst q; rfl
def eo_ (xs : List Int) (v : Int) : Bool := xs.any fun x => decide (v = x)
def co_ (x : ac_) (S : List Int) : List Int := S.filter fun j => (bk_ x j).any (eo_ S)
def eh_ (x : ac_) : Nat → List Int → List Int
 | 0, S => S
 | n + 1, S => if (co_ x S).length = S.length then S else eh_ x n (co_ x S)
def fl_ (x : ac_) (S : List Int) : List Int := eh_ x S.length S
theorem gd_ (x : ac_) (S : List Int) : (co_ x S).length ≤ S.length := length_filter_le _ _
theorem of_ {x : ac_} {S : List Int} (h : (co_ x S).length = S.length) : co_ x S = S := filter_sublist.eq_of_length h
theorem gy_ (x : ac_) : ∀ n : Nat, eh_ x n [] = []
 | 0 => rfl
 | n + 1 => by rw [eh_]; exact if_pos rfl
theorem jD_ (x : ac_) : ∀ (n m : Nat) (S : List Int), S.length ≤ n → S.length ≤ m → eh_ x n S = eh_ x m S
 | 0, m, S, h1, h2 => by
  have e : S = [] := eq_nil_of_length_eq_zero (by omega)
  subst e; rw [gy_, gy_]
 | n + 1, 0, S, h1, h2 => by
  have e : S = [] := eq_nil_of_length_eq_zero (by omega)
  subst e; rw [gy_, gy_]
 | n + 1, m + 1, S, h1, h2 => by
  have h3 := gd_ x S
  rw [eh_, eh_]
  split
  ·rfl
  ·rename_i h
   exact jD_ x n m _ (by omega) (by omega)
theorem ju_ {x : ac_} {S : List Int} (h : (co_ x S).length = S.length) : fl_ x S = S := by
 unfold fl_
 cases e : S.length with
 | zero => rfl
 | succ n => rw [eh_, if_pos h]
theorem lL_ {x : ac_} {S : List Int} (h : (co_ x S).length ≠ S.length) : fl_ x S = fl_ x (co_ x S) := by
 have h3 := gd_ x S
 unfold fl_
 cases e : S.length with
 | zero => omega
 | succ n => rw [eh_, if_neg h]; exact jD_ x _ _ _ (by omega) (Nat.le_refl _)
theorem lT_ (x : ac_) : ∀ (n : Nat) (S : List Int), (eh_ x n S).length ≤ S.length
 | 0, S => Nat.le_refl _
 | n + 1, S => by
  rw [eh_]
  split
  ·exact Nat.le_refl _
  ·exact Nat.le_trans (lT_ x n _) (gd_ x S)
def dd_ (x : ac_) : List Int := x.Asks.map af_.Job
def bv_ (x : ac_) : List Int := if cE_ x = true then fl_ x (bJ_ (dd_ x)) else []
theorem lI_ : ∀ (r : List af_) (pre : List Int), cj_ pre r = true → pre.Nodup → (pre ++ r.map af_.Job).Nodup
 | [], pre, _, h => by simpa using h
 | a :: r, pre, h, hn => by
  simp only [cj_, Bool.and_eq_true, Bool.not_eq_true'] at h
  have hj : a.Job ∉ pre := fun q => by
   have := h.1.1.1.2
   rw [contains_iff_mem.2 q] at this; cases this
  have := lI_ r (pre ++ [a.Job]) h.2 (by
   rw [nodup_append]
   exact ⟨hn, nodup_cons.2 ⟨by simp, nodup_nil⟩, fun b hb c hc => by simp at hc; subst hc; rintro rfl; exact hj hb⟩)
  simpa using this
theorem qy_ {x : ac_} (h : cE_ x = true) : (dd_ x).Nodup := by
 simp only [cE_, Bool.and_eq_true] at h
 have := lI_ x.Asks [] h.1 nodup_nil
 simpa [dd_] using this
theorem iR_ : ∀ zs : List Int, zs.Pairwise (· < ·) → aV_ zs = zs
 | [], _ => rfl
 | [x], _ => rfl
 | x :: y :: r, h => by
  obtain ⟨h1, h2⟩ := pairwise_cons.1 h
  have h3 := h1 y (by simp)
  rw [aV_, if_neg (by omega), iR_ (y :: r) h2]
theorem pB_ {l : List Int} (h : l.Nodup) : bJ_ l = l.foldl bI_ [] := by
 rw [← lO_]
 refine (iR_ _ ?_).symm
 have h1 := ij_ l
 have h2 : (bJ_ l).Nodup := (mergeSort_perm l _).nodup_iff.2 h
 exact (h1.and h2).imp fun ⟨a, b⟩ => by omega
theorem pq_ (x : ac_) : (bv_ x).length ≤ x.Asks.length := by
 unfold bv_
 split
 ·refine Nat.le_trans (lT_ _ _ _) ?_
  rw [dC_, dd_, length_map]; exact Nat.le_refl _
 ·exact Nat.zero_le _
theorem r4_ {x : ac_} (hx : ac_.sz x ≤ 1048576) : as_ (fun _ : Int => 0) (bv_ x) ≤ 1048576 := by
 have h1 := pq_ x
 have h2 := ar_ (ac_.sz_Asks hx)
 rw [m1_]; omega
theorem iQ_ {α : Type} (p : α → Bool) (S : List α) (i : Nat) (h : i < S.length) : (S.take (i + 1)).filter p = if p S[i] then (S.take i).filter p ++ [S[i]] else (S.take i).filter p := by
 rw [take_succ_eq_append_getElem h, filter_append]
 cases q : p S[i] <;> simp [q]
def c44 : LC :=
 .q [.o [.f 4], .q [.o [.ki 5 0], .block 0 (.loop (.q [.q [.o [.m 6 5, .m 7 0, .ll 8 7, .bb 9 .lss false 6 8], .k 9 .skip (.exit 0)], .block 1 (.q [.o [.m 12 0, .m 13 5, .ia 14 1 12 13, .ln 15 14, .m 16 1, .bb 17 .eql
 false 15 16], .k 17 (.q [.o [.t 4], .ret]) .skip]), .o [.m 10 5, .bk 11 .add false 10 1, .m 5 11]]))], .o [.f 4], .ret]
def tg_ : LF := ⟨2, 18, c44, [.tmp 4]⟩
theorem vJ_ : av_ prog Tryz.f44 tg_ := aq_
theorem kx_ (xs : List Int) (v : Int) (hx : xs.length ≤ 1048576) (h : List Row) : aa_ prog 44 [.list 0 1 (xs.map bA_), .val (.int .i64 v)] h (.val (.bool (eo_ xs v))) := by
 refine am_ mixed Tryz.func44 vJ_ rfl rfl ?_ h
 simp (disch := omega) only [tg_, c44, go_sem]
 refine ay_ (fun n t h => ∃ k : Nat, t 0 = .list 0 1 (xs.map bA_) ∧ t 1 = .val (.int .i64 v) ∧ t 5 = .val (.int .i64 k) ∧ n = xs.length - k ∧ k ≤ xs.length ∧ (eo_ xs v = eo_ (xs.drop k) v)) (xs.length) ?_ ?_
 ·exact ⟨0, rfl, rfl, rfl, rfl, Nat.zero_le _, rfl⟩
 ·rintro J hJ n t h ⟨k, t0, t1, k5, rfl, hk, hS⟩
  by_cases hlt : k < xs.length
  ·skip
   rw [show eo_ (xs.drop k) v = (decide (v = xs[k]) || eo_ (xs.drop (k + 1)) v) from by rw [drop_eq_getElem_cons hlt]; rfl] at hS
   have hsym : (xs[k] = v) = (v = xs[k]) := propext ⟨Eq.symm, Eq.symm⟩
   simp (disch := omega) only [t0, t1, k5, hlt, bA_, go_sem, reduceEqDiff, reduceCtorEq, ↓reduceIte]
   repeat' (first
    | exact ad_ _ _
    | exact ⟨xs.length - (k + 1), by omega, hJ _ _ _ ⟨k + 1, by simp [upd, t0], by simp [upd, t1], by simp [upd], rfl, by omega, by rw [hS]; first | (simp [*]; done) | (simp_all; done)⟩⟩
    | (refine ae_ ?_; rw [hS]; simp [*]; done)
    | (refine ae_ ?_; rw [hS]; simp_all; done)
    | (refine ae_ ?_; rw [hS, drop_eq_nil_of_le (by omega)]; rfl)
    | simp (disch := omega) only [k5, go_sem, reduceEqDiff, ↓reduceIte]
    | ((first | (apply bd_; assumption) | (apply be_; assumption) | (apply bo_; assumption) | (apply bp_; assumption)); intro hb; try simp only [hb])
    | ((first | (apply aD_; assumption) | (apply aE_; assumption) | (apply aL_; assumption) | (apply aJ_; assumption)); intro hb; try simp only [hb])
    | ((first | apply aF_ | apply aM_ | apply an_ | apply ao_) <;> intro hb <;> (try simp only [hb]) <;> (first | have hp := a4_ hb | have hp := a3_ hb | have hp := a1_ hb | have hp := aZ_ hb | skip)))
  ·skip
   simp (disch := omega) only [t0, k5, hlt, go_sem, reduceEqDiff, reduceCtorEq, ↓reduceIte]
   repeat' (first
    | exact ad_ _ _
    | (refine ae_ ?_; rw [hS]; simp [*]; done)
    | (refine ae_ ?_; rw [hS]; simp_all; done)
    | (refine ae_ ?_; rw [hS, drop_eq_nil_of_le (by omega)]; rfl)
    | simp (disch := omega) only [t0, t1, k5, go_sem, reduceEqDiff, Nat.reduceAdd, reduceLeDiff, reduceCtorEq, Int.reduceLT, Int.reduceLE, Int.reduceNeg, Int.reduceSub, Int.reduceAdd, Int.reduceToNat, ↓reduceIte]
    | ((first | (apply bd_; assumption) | (apply be_; assumption) | (apply bo_; assumption) | (apply bp_; assumption)); intro hb; try simp only [hb])
    | ((first | (apply aD_; assumption) | (apply aE_; assumption) | (apply aL_; assumption) | (apply aJ_; assumption)); intro hb; try simp only [hb])
    | ((first | apply aF_ | apply aM_ | apply an_ | apply ao_) <;> intro hb <;> (try simp only [hb]) <;> (first | have hp := a4_ hb | have hp := a3_ hb | have hp := a1_ hb | have hp := aZ_ hb | skip)))
def f0_ (x : ac_) (S : List Int) (j : Int) : Bool := (bk_ x j).any (eo_ S)
def c17 : LC :=
 .q [.o [.bx 1 32 0, .nl 2], .q [.o [.ld 11 2 1, .c1 12 32 11, .nt 13 12], .k 13 (.q [.o [.s 14 (.buildSlice 2 1 (.int .i64 0) 0 []), .m 2 14], .ret]) .skip], .o [.s 15 (.buildSlice 2 1 (.int .i64 0) 0 []), .m 3 15], .q
 [.o [.ki 4 0], .block 0 (.loop (.q [.q [.o [.m 16 4, .fa 17 1 1, .ln 18 17, .ll 19 18, .bb 20 .lss false 16 19], .k 20 .skip (.exit 0)], .block 1 (.o [.m 23 3, .fa 24 1 1, .ln 25 24, .m 26 4, .ia 27 4 25 26, .fa 28 0 27,
 .ln 29 28, .c2 30 43 23 29, .m 3 30]), .o [.m 21 4, .bk 22 .add false 21 1, .m 4 22]]))], .q [.o [.t 5], .block 2 (.loop (.q [.q [.o [.m 31 5], .k 31 .skip (.exit 2)], .block 3 (.q [.o [.s 32 (.buildSlice 2 1 (.int .i64
 0) 0 []), .m 6 32], .q [.o [.ki 7 0], .block 4 (.loop (.q [.q [.o [.m 33 7, .m 34 3, .ll 35 34, .bb 36 .lss false 33 35], .k 36 .skip (.exit 4)], .block 5 (.q [.gops [.ld 39 2 1, .m 40 3, .m 41 7, .ia 42 1 40 41, .ln 43
 42] [(.c2 44 33 39 43, []), (.m 8 44, [])], .o [.f 9], .q [.o [.ki 10 0], .block 6 (.loop (.q [.q [.o [.m 45 10, .m 46 8, .ll 47 46, .bb 48 .lss false 45 47], .k 48 .skip (.exit 6)], .block 7 (.o [.m 51 9, .m 52 51, .gm
 53 52 false 3, .gm 54 52 false 8, .gm 55 52 false 10, .g 56 52 false (.indexAddr 1 (.tmp 54) (.tmp 55)), .gn 57 52 false 56, .g 58 52 false (.call 44 [.tmp 53, .tmp 57]), .pt 59 52 58, .m 9 59]), .o [.m 49 10, .bk 50
 .add false 49 1, .m 10 50]]))], .o [.m 60 9], .k 60 (.o [.m 61 6, .m 62 3, .m 63 7, .ia 64 1 62 63, .ln 65 64, .s 66 (.buildSlice 2 1 (.int .i64 0) 1 [(0, .tmp 65)]), .ap 67 2 1 8 61 66, .m 6 67]) .skip]), .o [.m 37 7,
 .bk 38 .add false 37 1, .m 7 38]]))], .o [.m 68 6, .ll 69 68, .m 70 3, .ll 71 70, .bb 72 .lss false 69 71, .m 5 72], .o [.m 73 6, .m 3 73]])]))], .o [.m 74 3, .m 2 74], .ret]
def tJ_ : LF := ⟨1, 75, c17, [.tmp 2]⟩
theorem vK_ : av_ prog Tryz.f17 tJ_ := kl_
theorem ha_ (x : ac_) (hx : ac_.sz x ≤ 1048576) : bb_ prog 17 [.agg (ac_.cells x)] (.list 0 1 (ak_ (bv_ x))) (fun a => True) := by
 refine gx_ mixed Tryz.func17 vK_ rfl (fun h0 => ?_)
 have hlenA := ar_ (ac_.sz_Asks hx)
 have hput : ∀ (out : List Int) (E : Tag) (L : Nat) (H : List Row) (z : Int) (K : AV → List Row → Prop), H[L]? = some ⟨E, 1, ak_ out⟩ → out.length ≤ 4000000 → (∀ H' L' E', a5_ H H' → H.length ≤ L' → H'[L']? = some ⟨E', 1, ak_ (bI_ out z)⟩ → K (.own L' (bI_ out z).length) H') → callSem prog 43 [.own L out.length, .val (.int .i64 z)] H K := by
  intro out E L H z K hL ho hk
  refine io_ (n := 2) (fA_ out z ho) (cS_ (g2_ hL (aG_ _) (c0_ _)) (cr_ rfl)) ?_
  rintro av hn hf ⟨l', k', rfl⟩
  obtain ⟨hb, rfl, E', hl'⟩ := hf.ints
  exact hk _ l' E' (a5_.app _ _) hb hl'
 have hw : ∀ (z : Int) (H : List Row) (K : AV → List Row → Prop), (∀ H' l E', a5_ H H' → H.length ≤ l → H'[l]? = some ⟨E', 1, ak_ (bk_ x z)⟩ → K (.own l (bk_ x z).length) H') → callSem prog 33 [.agg [.list 0 4 (x.Held.map ab_.cells), .list 0 4 (x.Asks.map af_.cells)], .val (.int .i64 z)] H K := by
  intro z H K hk
  refine fc_ (h5_ x z hx) ?_
  rintro av H' m' F' ⟨l', k', rfl⟩
  obtain ⟨hb, rfl, E', hl'⟩ := F'.tree.fresh.ints
  exact hk _ l' E' m' hb hl'
 have hwl : ∀ z, (bk_ x z).length ≤ 4000000 := fun z => by
  have h1 := iW_ x z
  have h2 := ar_ (ac_.sz_Held hx)
  omega
 simp (disch := (first | omega | (simp only [ls_, la_, lc_, ln_]; first | done | omega))) only [dR_, go_sem, reduceEqDiff, Nat.reduceAdd, ↓reduceIte, tJ_, c17, ac_.cells]
 refine aa_.call (lo_ x hx _) ?_
 cases q : cE_ x
 ·simp (disch := (first | omega | (simp only [ls_, la_, lc_, ln_]; first | done | omega))) only [go_sem, ↓reduceIte]
  rw [bv_, q]
  exact ⟨a5_.app _ _, (bO_.ofInts (zs := []) (E := 2) (l := h0.length + 1) (gq_ rfl) (by omega)).b⟩
 simp (disch := (first | omega | (simp only [ls_, la_, lc_, ln_]; first | done | omega))) only [go_sem, ↓reduceIte]
 refine ay_ (fun m t h => ∃ (k : Nat) (out : List Int) (L : Nat) (E : Tag), t 1 = .ptr h0.length 1 0 0 ∧ t 3 = .own L out.length ∧ t 4 = .val (.int .i64 k) ∧ a5_ h0 h ∧ h[h0.length]? = some (gG_ x) ∧ h[L]? = some ⟨E, 1, ak_ out⟩ ∧ h0.length < L ∧ m = x.Asks.length - k ∧ k ≤ x.Asks.length ∧ out.length ≤ k ∧ (dd_ x).foldl bI_ [] = ((x.Asks.drop k).map af_.Job).foldl bI_ out) x.Asks.length ⟨0, [], h0.length + 1, 2, rfl, rfl, rfl, a5_.app _ _, dR_ rfl, gq_ rfl, by omega, rfl, Nat.zero_le _, Nat.le_refl _, rfl⟩ ?_
 rintro J hJ m t h ⟨k, out, L, E, t1, t3, t4, mo, o0, oL, hL, rfl, hk, ho, hS⟩
 by_cases hlt : k < x.Asks.length
 ·simp (disch := (first | omega | (simp only [ls_, la_, lc_, ln_]; first | done | omega))) only [go_sem, reduceEqDiff, Nat.reduceAdd, ↓reduceIte, t1, t3, t4, o0, hlt, dr_]
  refine hput out E L _ _ _ oL (by omega) (fun H' L' E' m' hl' o' => ?_)
  have hp := hf_ out x.Asks[k].Job
  have o0' := m'.at o0
  simp (disch := (first | omega | (simp only [ls_, la_, lc_, ln_]; first | done | omega))) only [go_sem, reduceEqDiff, ↓reduceIte, t4, aQ_]
  refine ⟨x.Asks.length - (k + 1), by omega, hJ _ _ _ ⟨k + 1, _, L', E', by simp [upd, t1], by simp [upd], by simp [upd], mo.trans m', o0', o', by have := mo.len; have := (List.getElem?_eq_some_iff.1 o0).1; omega, rfl, by omega, by omega, ?_⟩⟩
  rw [hS, drop_eq_getElem_cons hlt]; rfl
 have hd : x.Asks.drop k = [] := drop_eq_nil_of_le (by omega)
 rw [hd] at hS
 have hout : out = bJ_ (dd_ x) := by rw [pB_ (qy_ q), hS]; rfl
 have hR : bv_ x = fl_ x out := by rw [bv_, if_pos q, hout]
 simp (disch := (first | omega | (simp only [ls_, la_, lc_, ln_]; first | done | omega))) only [go_sem, reduceEqDiff, ↓reduceIte, t1, t4, o0, hlt]
 refine ay_ (fun m t h => ∃ (S : List Int) (L : Nat) (E : Tag) (g : Bool), t 1 = .ptr h0.length 1 0 0 ∧ t 3 = .own L S.length ∧ t 5 = .val (.bool g) ∧ a5_ h0 h ∧ h[h0.length]? = some (gG_ x) ∧ h[L]? = some ⟨E, 1, ak_ S⟩ ∧ h0.length < L ∧ m = S.length + g.toNat ∧ S.length ≤ 1048576 ∧ bv_ x = (if g then fl_ x S else S)) (out.length + 1) ⟨out, L, E, true, by simp [upd, t1], by simp [upd, t3], by simp [upd], mo, o0, oL, hL, rfl, by omega, hR⟩ ?_
 clear hJ t1 t3 t4 mo o0 oL hL hlt hS hd
 rintro J hJ m t h ⟨S, L, E, g, t1, t3, t5, mo, o0, oL, hL, rfl, hSl, hS⟩
 cases g
 ·simp (disch := (first | omega | (simp only [ls_, la_, lc_, ln_]; first | done | omega))) only [go_sem, reduceEqDiff, ↓reduceIte, t3, t5]
  rw [hS]
  exact ⟨mo, (bO_.ofInts oL (by omega)).b⟩
 have hl0 := (List.getElem?_eq_some_iff.1 oL).1
 simp (disch := (first | omega | (simp only [ls_, la_, lc_, ln_]; first | done | omega))) only [go_sem, ↓reduceIte, t5]
 refine ay_ (fun m t h => ∃ (i : Nat) (left : List Int) (M : Nat), t 1 = .ptr h0.length 1 0 0 ∧ t 3 = .own L S.length ∧ t 6 = .own M left.length ∧ t 7 = .val (.int .i64 i) ∧ a5_ h0 h ∧ h[h0.length]? = some (gG_ x) ∧ h[L]? = some ⟨E, 1, ak_ S⟩ ∧ L < M ∧ h[M]? = some ⟨.ty 2, 1, ak_ left⟩ ∧ m = S.length - i ∧ i ≤ S.length ∧ left = (S.take i).filter (f0_ x S)) S.length ⟨0, [], h.length, by simp [upd, t1], by simp [upd, t3], by simp [upd], by simp [upd], mo.trans (a5_.app _ _), bt_ o0, bt_ oL, hl0, dR_ rfl, rfl, Nat.zero_le _, rfl⟩ ?_
 rintro J2 hJ2 m t2 h2 ⟨i, left, M, u1, u3, u6, u7, mo2, p0, pL, hLM, pM, rfl, hi, hleft⟩
 by_cases hlt : i < S.length
 case neg =>
  have e : i = S.length := by omega
  subst e
  rw [take_length] at hleft
  have hn : left = co_ x S := hleft
  have hnl := gd_ x S
  rw [← hn] at hnl
  simp (disch := (first | omega | (simp only [ls_, la_, lc_, ln_]; first | done | omega))) only [go_sem, reduceEqDiff, ↓reduceIte, u3, u6, u7, pL, pM, aG_, hlt]
  refine ⟨left.length + (decide (left.length < S.length)).toNat, ?_, hJ _ _ _ ⟨left, M, _, decide (left.length < S.length), by simp [upd, u1], by simp [upd], by simp [upd], mo2, p0, pM, by omega, rfl, by omega, ?_⟩⟩
  ·by_cases hq : left.length < S.length
   ·simp [hq]; try omega
   ·simp [hq]; try omega
  ·rw [hS]
   by_cases hq : left.length < S.length
   ·rw [if_pos rfl, decide_eq_true hq, if_pos rfl, lL_ (by rw [← hn]; omega), hn]
   ·have hne : (co_ x S).length = S.length := by rw [← hn]; omega
    rw [if_pos rfl, decide_eq_false hq, ju_ hne, hn, of_ hne]; rfl
 have htf := iQ_ (f0_ x S) S i hlt
 have hg := b1_ S i hlt
 simp (disch := (first | omega | (simp only [ls_, la_, lc_, ln_]; first | done | omega))) only [go_sem, reduceEqDiff, Nat.reduceAdd, ↓reduceIte, u1, u3, u7, p0, pL, hg, hlt, aG_]
 refine hw _ _ _ (fun H3 W EW m3 hW oW => ?_)
 have r0 := m3.at p0
 have rL := m3.at pL
 have rM := m3.at pM
 simp (disch := (first | omega | (simp only [ls_, la_, lc_, ln_]; first | done | omega))) only [go_sem, ↓reduceIte]
 have hwl' := hwl S[i]
 refine ay_ (fun m t h => ∃ (k : Nat) (b : Bool), t 1 = .ptr h0.length 1 0 0 ∧ t 3 = .own L S.length ∧ t 6 = .own M left.length ∧ t 7 = .val (.int .i64 i) ∧ t 8 = .own W (bk_ x S[i]).length ∧ t 9 = .val (.bool b) ∧ t 10 = .val (.int .i64 k) ∧ a5_ H3 h ∧ m = (bk_ x S[i]).length - k ∧ k ≤ (bk_ x S[i]).length ∧ b = ((bk_ x S[i]).take k).any (eo_ S)) (bk_ x S[i]).length ⟨0, false, by simp [upd, u1], by simp [upd, u3], by simp [upd, u6], by simp [upd, u7], by simp [upd], by simp [upd], by simp [upd], a5_.refl _, rfl, Nat.zero_le _, rfl⟩ ?_
 rintro J3 hJ3 m t3 h3 ⟨k, b, v1, v3, v6, v7, v8, v9, v10, m4, rfl, hk, hb⟩
 have s0 := m4.at r0
 have sL := m4.at rL
 have sM := m4.at rM
 have sW := m4.at oW
 have hMl := (List.getElem?_eq_some_iff.1 sM).1
 have hLl := (List.getElem?_eq_some_iff.1 sL).1
 have h0l := (List.getElem?_eq_some_iff.1 s0).1
 by_cases hlk : k < (bk_ x S[i]).length
 ·have hgk := b1_ (bk_ x S[i]) k hlk
  have hb2 : ((bk_ x S[i]).take (k + 1)).any (eo_ S) = (b || eo_ S (bk_ x S[i])[k]) := by
   rw [take_succ_eq_append_getElem hlk, any_append, ← hb]; simp
  have hhas : ∀ H, H[L]? = some ⟨E, 1, ak_ S⟩ → aa_ prog 44 [.own L S.length, .val (.int .i64 (bk_ x S[i])[k])] H (.val (.bool (eo_ S (bk_ x S[i])[k]))) := fun H hH => AW.frozen (n := 2) (fun h => kx_ S _ hSl h) (cS_ (g2_ hH (aG_ _) (c0_ _)) (cr_ rfl))
  cases b
  ·simp (disch := (first | omega | (simp only [ls_, la_, lc_, ln_]; first | done | omega))) only [go_sem, reduceEqDiff, ↓reduceIte, v3, v8, v9, v10, sW, hlk, hgk, aG_]
   refine aa_.call (hhas _ sL) ?_
   simp (disch := (first | omega | (simp only [ls_, la_, lc_, ln_]; first | done | omega))) only [go_sem, reduceEqDiff, ↓reduceIte, v10, aQ_]
   refine ⟨(bk_ x S[i]).length - (k + 1), by omega, hJ3 _ _ _ ⟨k + 1, eo_ S (bk_ x S[i])[k], by simp [upd, v1], by simp [upd, v3], by simp [upd, v6], by simp [upd, v7], by simp [upd, v8], by simp [upd], by simp [upd], m4, rfl, by omega, ?_⟩⟩
   rw [hb2]; simp
  ·simp (disch := (first | omega | (simp only [ls_, la_, lc_, ln_]; first | done | omega))) only [go_sem, reduceEqDiff, ↓reduceIte, v8, v9, v10, sW, hlk, aG_, aQ_]
   refine ⟨(bk_ x S[i]).length - (k + 1), by omega, hJ3 _ _ _ ⟨k + 1, true, by simp [upd, v1], by simp [upd, v3], by simp [upd, v6], by simp [upd, v7], by simp [upd, v8], by simp [upd], by simp [upd], m4, rfl, by omega, ?_⟩⟩
   rw [hb2]; simp
 have e : k = (bk_ x S[i]).length := by omega
 subst e
 rw [take_length] at hb
 have hbs : f0_ x S S[i] = b := hb.symm
 rw [hbs, ← hleft] at htf
 have hll : left.length ≤ i := by rw [hleft]; exact Nat.le_trans (length_filter_le _ _) (by rw [length_take]; omega)
 cases b
 ·simp (disch := (first | omega | (simp only [ls_, la_, lc_, ln_]; first | done | omega))) only [go_sem, reduceEqDiff, ↓reduceIte, v7, v8, v9, v10, sW, hlk, aG_, aQ_]
  exact ⟨S.length - (i + 1), by omega, hJ2 _ _ _ ⟨i + 1, left, M, by simp [upd, v1], by simp [upd, v3], by simp [upd, v6], by simp [upd], (mo2.trans m3).trans m4, s0, sL, hLM, sM, rfl, by omega, htf.symm⟩⟩
 ·simp (disch := (first | omega | (simp only [ls_, la_, lc_, ln_]; first | done | omega))) only [f4_, dR_, go_sem, reduceEqDiff, reduceLeDiff, ↓reduceIte, v3, v6, v7, v8, v9, v10, sW, sL, sM, hlk, hg, hlt, aG_, h3_, eJ_, aQ_]
  repeat (refine And.intro (by first | omega | exact fM_ _ | exact i7_ _ | (simp; done)) ?_)
  refine ⟨S.length - (i + 1), by omega, hJ2 _ _ _ ⟨i + 1, left ++ [S[i]], M, by simp [upd, v1], by simp [upd, v3], by simp [upd], by simp [upd], ?_, ?_, ?_, hLM, ?_, rfl, by omega, htf.symm⟩⟩
  ·exact (((mo2.trans m3).trans m4).add _).set (by have := mo2.len; omega)
  ·(repeat (first | rw [c9_ (by omega)] | rw [f4_ (by first | omega | (simp only [ls_, la_, lc_, ln_]; omega))])); exact s0
  ·(repeat (first | rw [c9_ (by omega)] | rw [f4_ (by first | omega | (simp only [ls_, la_, lc_, ln_]; omega))])); exact sL
  ·exact dP_ (by simp; omega)
theorem fo_ (x : ac_) (hx : ac_.sz x ≤ 1048576) (h : List Row) : aa_ prog 17 [.agg (ac_.cells x)] h (.list 0 1 (ak_ (bv_ x))) := (ha_ x hx).pure rfl h
def QI (f : FuncId) (args : List AV) (h : List Row) (r : AV) : Prop := ∀ K : AV → List Row → Prop, (∀ H', a5_ h H' → K r H') → callSem prog f args h K
def c85 : LC :=
 .q [.o [.ki 4 0], .q [.o [.m 6 0, .ll 7 6, .ki 8 0], .block 0 (.loop (.q [.o [.bb 9 .lss false 8 7], .k 9 .skip (.exit 0), .block 1 (.q [.o [.m 10 8, .m 5 10], .o [.m 11 1, .m 12 0, .m 13 5, .ia 14 1 12 13, .ln 15 14, .s
 16 (.callv (.tmp 11) [.tmp 15])], .k 16 (.q [.o [.m 17 5, .m 4 17], .ret]) .skip]), .o [.bk 18 .add false 8 1, .m 8 18]]))], .o [.s 4 (.mov (.const (.int .i64 (-1))))], .ret]
def pZ_ : LF := ⟨2, 19, c85, [.tmp 4]⟩
theorem rl_ : av_ prog Tryz.f85 pZ_ := aq_
theorem fK_ (xs : List Int) (p : Int → Bool) (g : Nat) (caps : List AV) (hcf : caps.all AV.flat = true) (hx : xs.length ≤ 1048576) (hc : bH_ prog g = true) (hp : ∀ x ∈ xs, ∀ h, aa_ prog g (.val (.int .i64 x) :: caps) h (.val (.bool (p x)))) (h : List Row) :
 aa_ prog 85 [.list 0 1 (xs.map bA_), .fn g [] caps] h (.val (.int .i64 (aU_ p xs 0))) := by
 refine am_ mixed Tryz.func85 rl_ rfl (by simp only [all_cons, all_nil, eO_, gi_ _ _ hcf]; rfl) ?_ h
 simp (disch := omega) only [pZ_, c85, go_sem, reduceCtorEq, Int.reduceNeg, ↓reduceIte]
 refine ay_ (fun n t h => ∃ k : Nat, t 0 = .list 0 1 (xs.map bA_) ∧ t 1 = .fn g [] caps ∧ t 6 = .list 0 1 (xs.map bA_) ∧ t 7 = .val (.int .i64 xs.length) ∧ t 8 = .val (.int .i64 k) ∧ n = xs.length - k ∧ k ≤ xs.length ∧ (aU_ p xs 0 = aU_ p (xs.drop k) k)) (xs.length) ?_ ?_
 ·exact ⟨0, rfl, rfl, rfl, rfl, rfl, rfl, Nat.zero_le _, rfl⟩
 ·rintro J hJ n t h ⟨k, t0, t1, t6, t7, k8, rfl, hk, hS⟩
  by_cases hlt : k < xs.length
  ·skip
   rw [cC_ p xs k hlt] at hS
   simp (disch := omega) only [t0, t1, t7, k8, hlt, hc, bA_, go_sem, reduceEqDiff, reduceCtorEq, Int.reduceNeg, ↓reduceIte]
   repeat' (first
    | exact ad_ _ _
    | exact ⟨xs.length - (k + 1), by omega, hJ _ _ _ ⟨k + 1, by simp [upd, t0], by simp [upd, t1], by simp [upd, t6], by simp [upd, t7], by simp [upd], rfl, by omega, by rw [hS]; simp [*]⟩⟩
    | (refine at_ ?_; rw [hS]; simp [*]; done)
    | (refine at_ ?_; rw [hS, bB_ _ _ _ (by omega)])
    | simp (disch := omega) only [k8, go_sem, reduceEqDiff, Int.reduceNeg, ↓reduceIte]
    | (refine aa_.call (hp xs[k] (getElem_mem hlt) _) ?_)
    | (refine aa_.q (hp xs[k] (getElem_mem hlt) _) ?_)
    | ((first | (apply aD_; assumption) | (apply aE_; assumption) | (apply aL_; assumption) | (apply aJ_; assumption)); intro hb; try simp only [hb])
    | ((first | apply an_ | apply ao_) <;> intro hb <;> (try simp only [hb]) <;> (first | have hp := a4_ hb | have hp := a3_ hb | have hp := a1_ hb | have hp := aZ_ hb | skip)))
  ·skip
   simp (disch := omega) only [t7, k8, hlt, go_sem, Int.reduceNeg, ↓reduceIte]
   repeat' (first
    | exact ad_ _ _
    | (refine at_ ?_; rw [hS]; simp [*]; done)
    | (refine at_ ?_; rw [hS, bB_ _ _ _ (by omega)])
    | simp (disch := omega) only [t0, t1, t6, t7, k8, go_sem, reduceEqDiff, Nat.reduceAdd, reduceLeDiff, reduceCtorEq, Int.reduceLT, Int.reduceLE, Int.reduceNeg, Int.reduceSub, Int.reduceAdd, Int.reduceToNat, ↓reduceIte]
    | (refine aa_.call (hp xs[k] (getElem_mem hlt) _) ?_)
    | (refine aa_.q (hp xs[k] (getElem_mem hlt) _) ?_)
    | ((first | (apply aD_; assumption) | (apply aE_; assumption) | (apply aL_; assumption) | (apply aJ_; assumption)); intro hb; try simp only [hb])
    | ((first | apply an_ | apply ao_) <;> intro hb <;> (try simp only [hb]) <;> (first | have hp := a4_ hb | have hp := a3_ hb | have hp := a1_ hb | have hp := aZ_ hb | skip)))
def c49 : LC :=
 .q [.o [.f 4], .o [.m 5 0, .m 6 1, .c2 7 85 5 6, .bk 8 .geq false 7 0, .m 4 8], .ret]
def tC_ : LF := ⟨2, 9, c49, [.tmp 4]⟩
theorem vC_ : av_ prog Tryz.f49 tC_ := aq_
theorem eX_ (xs : List Int) (p : Int → Bool) (g : Nat) (caps : List AV) (hcf : caps.all AV.flat = true) (hx : xs.length ≤ 1048576) (hc : bH_ prog g = true) (hp : ∀ x ∈ xs, ∀ h, aa_ prog g (.val (.int .i64 x) :: caps) h (.val (.bool (p x)))) (h : List Row) :
 aa_ prog 49 [.list 0 1 (xs.map bA_), .fn g [] caps] h (.val (.bool (xs.any p))) := by
 refine am_ mixed Tryz.func49 vC_ rfl (by simp only [all_cons, all_nil, eO_, gi_ _ _ hcf]; rfl) ?_ h
 simp (disch := omega) only [tC_, c49, go_sem, reduceEqDiff, reduceCtorEq, ↓reduceIte]
 refine aa_.call (fK_ xs p g caps hcf hx hc hp _) ?_
 simp (disch := omega) only [go_sem, ↓reduceIte]
 exact ae_ (fk_ p xs)
def c47 : LC :=
 .q [.o [.nl 2], .q [.o [.m 3 0, .s 4 (.isNil false (.tmp 3))], .k 4 (.q [.o [.nl 2], .ghost .ret]) .skip], .o [.s 5 (.buildSlice 2 1 (.int .i64 0) 0 []), .m 6 0, .ap 7 2 1 8 5 6, .m 2 7], .ghost .ret]
def sN_ : LF := ⟨1, 8, c47, [.tmp 2]⟩
theorem vF_ : av_ prog Tryz.f47 sN_ := aq_
theorem gR_ (zs : List Int) (hz : zs.length ≤ 1048576) (h0 : List Row) (K : AV → List Row → Prop) (hk : ∀ H', a5_ h0 H' → H'[h0.length]? = some ⟨.ty 2, 1, ak_ zs⟩ → K (.own h0.length zs.length) H') : callSem prog 47 [.list 0 1 (ak_ zs)] h0 K := by
 refine ba_ mixed Tryz.func47 vF_ (bP_ rfl ?_)
 have hcell : ∀ e ∈ ak_ zs, e.all AV.cell = true := by
  intro e he
  obtain ⟨x, _, q⟩ := mem_map.1 he; subst q; rfl
 simp (disch := omega) only [sN_, c47, go_sem, reduceCtorEq, ↓reduceIte]
 intro b hb
 cases b
 ·simp (disch := omega) only [bne_self_eq_false, aG_, go_sem, reduceEqDiff, reduceCtorEq, ↓reduceIte]
  refine ⟨by omega, by omega, hcell, ?_⟩
  try simp (disch := omega) only [go_sem, reduceEqDiff, Nat.reduceAdd, reduceLeDiff, reduceCtorEq, Int.reduceLT, Int.reduceLE, Int.reduceNeg, Int.reduceSub, Int.reduceAdd, Int.reduceToNat, ↓reduceIte]
  refine mp_ _ _ pO_ ?_
  simp (disch := omega) only [go_sem, ↓reduceIte]
  exact hk _ (a5_.app _ _) (by rw [cW_]; rfl)
 ·have hx0 : zs = [] := by simpa [ak_] using hb rfl
  subst hx0
  simp (disch := omega) only [Bool.bne_false, go_sem]
  refine mp_ _ _ (ou_ 2 2 1 rfl) ?_
  simp (disch := omega) only [go_sem, ↓reduceIte]
  exact hk _ (a5_.app _ _) (by rw [cW_]; rfl)
theorem gY_ {H : List Row} {a : AV} {zs : List Int} (hz : zs.length ≤ 1048576) (ha : AW.resolve H 2 a = some (.list 0 1 (ak_ zs))) {K : AV → List Row → Prop} (hk : ∀ H' l, a5_ H H' → H.length ≤ l → H'[l]? = some ⟨.ty 2, 1, ak_ zs⟩ → K (.own l zs.length) H') : callSem prog 47 [a] H K :=
 iY_ (Q := fun a X => ∃ l, a = .own l zs.length ∧ X[l]? = some ⟨.ty 2, 1, ak_ zs⟩) (r := .list 0 1 (ak_ zs))
  (fun h K hk => gR_ zs hz h K fun h' m hr => by
    obtain ⟨hn, rfl⟩ := m.tail
    exact hk _ _ (bO_.ofInts hr (Nat.le_refl _)) ⟨_, rfl, hr⟩)
  (by
    rintro n av fs X Y ho hl ⟨l, rfl, hX⟩
    cases n with
    | zero => exact ho.elim
    | succ n =>
     obtain ⟨row, es, f, q1, _, _, _, rfl⟩ := ho
     exact ⟨l, rfl, (hl l mem_cons_self).trans hX⟩)
  (fun S w xs hm hr => hy_ hm (cr_ ha) hr)
  (by
    rintro av hn hf ⟨l, rfl, hX⟩
    exact hk _ l (a5_.app _ _) hf.ints.1 hX)
def c86 : LC :=
 .q [.o [.ki 4 0], .q [.o [.m 6 0, .ll 7 6, .ki 8 0], .block 0 (.loop (.q [.o [.bb 9 .lss false 8 7], .k 9 .skip (.exit 0), .block 1 (.q [.o [.m 10 8, .m 5 10], .o [.m 11 1, .m 12 0, .m 13 5, .ia 14 1 12 13, .ln 15 14,
 .bb 16 .eql false 11 15], .k 16 (.q [.o [.m 17 5, .m 4 17], .ret]) .skip]), .o [.bk 18 .add false 8 1, .m 8 18]]))], .o [.s 4 (.mov (.const (.int .i64 (-1))))], .ret]
def te_ : LF := ⟨2, 19, c86, [.tmp 4]⟩
theorem vT_ : av_ prog Tryz.f86 te_ := aq_
theorem ev_ (xs : List Int) (v : Int) (hx : xs.length ≤ 1048576) (h : List Row) : aa_ prog 86 [.list 0 1 (xs.map bA_), .val (.int .i64 v)] h (.val (.int .i64 (aU_ (fun x => decide (v = x)) xs 0))) := by
 refine am_ mixed Tryz.func86 vT_ rfl rfl ?_ h
 simp (disch := omega) only [te_, c86, go_sem, reduceCtorEq, Int.reduceNeg, ↓reduceIte]
 refine ay_ (fun n t h => ∃ k : Nat, t 0 = .list 0 1 (xs.map bA_) ∧ t 1 = .val (.int .i64 v) ∧ t 7 = .val (.int .i64 xs.length) ∧ t 8 = .val (.int .i64 k) ∧ n = xs.length - k ∧ k ≤ xs.length ∧ (aU_ (fun x => decide (v = x)) xs 0 = aU_ (fun x => decide (v = x)) (xs.drop k) k)) (xs.length) ?_ ?_
 ·exact ⟨0, rfl, rfl, rfl, rfl, rfl, Nat.zero_le _, rfl⟩
 ·rintro J hJ n t h ⟨k, t0, t1, t7, k8, rfl, hk, hS⟩
  by_cases hlt : k < xs.length
  ·skip
   rw [cC_ _ xs k hlt] at hS
   simp (disch := omega) only [t0, t1, t7, k8, hlt, bA_, go_sem, reduceEqDiff, reduceCtorEq, Int.reduceNeg, ↓reduceIte]
   repeat' (first
    | exact ad_ _ _
    | exact ⟨xs.length - (k + 1), by omega, hJ _ _ _ ⟨k + 1, by simp [upd, t0], by simp [upd, t1], by simp [upd, t7], by simp [upd], rfl, by omega, by rw [hS]; simp [*]⟩⟩
    | (refine at_ ?_; rw [hS]; simp [*]; done)
    | (refine at_ ?_; rw [hS, bB_ _ _ _ (by omega)])
    | simp (disch := omega) only [k8, go_sem, reduceEqDiff, Int.reduceNeg, ↓reduceIte]
    | ((first | (apply aD_; assumption) | (apply aE_; assumption) | (apply aL_; assumption) | (apply aJ_; assumption)); intro hb; try simp only [hb])
    | ((first | apply an_ | apply ao_) <;> intro hb <;> (try simp only [hb]) <;> (first | have hp := a4_ hb | have hp := a3_ hb | have hp := a1_ hb | have hp := aZ_ hb | skip)))
  ·skip
   simp (disch := omega) only [t7, k8, hlt, go_sem, Int.reduceNeg, ↓reduceIte]
   repeat' (first
    | exact ad_ _ _
    | (refine at_ ?_; rw [hS]; simp [*]; done)
    | (refine at_ ?_; rw [hS, bB_ _ _ _ (by omega)])
    | simp (disch := omega) only [t0, t1, t7, k8, go_sem, reduceEqDiff, Nat.reduceAdd, reduceLeDiff, reduceCtorEq, Int.reduceLT, Int.reduceLE, Int.reduceNeg, Int.reduceSub, Int.reduceAdd, Int.reduceToNat, ↓reduceIte]
    | ((first | (apply aD_; assumption) | (apply aE_; assumption) | (apply aL_; assumption) | (apply aJ_; assumption)); intro hb; try simp only [hb])
    | ((first | apply an_ | apply ao_) <;> intro hb <;> (try simp only [hb]) <;> (first | have hp := a4_ hb | have hp := a3_ hb | have hp := a1_ hb | have hp := aZ_ hb | skip)))
def c51 : LC :=
 .q [.o [.f 4], .o [.m 5 0, .m 6 1, .c2 7 86 5 6, .bk 8 .geq false 7 0, .m 4 8], .ret]
def s2_ : LF := ⟨2, 9, c51, [.tmp 4]⟩
theorem vL_ : av_ prog Tryz.f51 s2_ := aq_
theorem f5_ (xs : List Int) (v : Int) (hx : xs.length ≤ 1048576) (h : List Row) : aa_ prog 51 [.list 0 1 (xs.map bA_), .val (.int .i64 v)] h (.val (.bool (eo_ xs v))) := by
 refine am_ mixed Tryz.func51 vL_ rfl rfl ?_ h
 simp (disch := omega) only [s2_, c51, go_sem, reduceEqDiff, reduceCtorEq, ↓reduceIte]
 repeat' (first
  | exact ad_ _ _
  | exact ae_ (fk_ _ xs)
  | simp (disch := omega) only [go_sem, ↓reduceIte]
  | (refine aa_.call (ev_ xs v hx _) ?_)
  | (refine aa_.q (ev_ xs v hx _) ?_)
  | ((first | (apply aD_; assumption) | (apply aE_; assumption) | (apply aL_; assumption) | (apply aJ_; assumption)); intro hb; try simp only [hb])
  | ((first | apply an_ | apply ao_) <;> intro hb <;> (try simp only [hb]) <;> (first | have hp := a4_ hb | have hp := a3_ hb | have hp := a1_ hb | have hp := aZ_ hb | skip)))
theorem fZ_ {E : Tag} {l : Nat} {H : List Row} {zs : List Int} (hr : H[l]? = some ⟨E, 1, ak_ zs⟩) (p : Int → Bool) (G : Nat) (caps : List AV) (hm : zs.length ≤ 1048576) (hc : bH_ prog G = true)
 (hp : ∀ H' : List Row, a5_ H H' → ∀ z ∈ zs, QI G (.val (.int .i64 z) :: caps) H' (.val (.bool (p z)))) : QI 85 [.sub l zs.length 0 zs.length, .fn G [] caps] H (.val (.int .i64 (aU_ p zs 0))) := by
 intro K hk
 refine ba_ mixed Tryz.func85 rl_ (bP_ rfl ?_)
 simp (disch := omega) only [pZ_, c85, hr, Nat.sub_zero, go_sem, reduceCtorEq, Int.reduceNeg, ↓reduceIte]
 refine ay_ (fun n t h => ∃ k : Nat, t 0 = .sub l zs.length 0 zs.length ∧ t 1 = .fn G [] caps ∧ t 7 = .val (.int .i64 zs.length) ∧ t 8 = .val (.int .i64 k) ∧ a5_ H h ∧ n = zs.length - k ∧ k ≤ zs.length ∧ aU_ p zs 0 = aU_ p (zs.drop k) k) zs.length ⟨0, rfl, rfl, rfl, rfl, a5_.refl _, rfl, Nat.zero_le _, rfl⟩ ?_
 rintro J hJ n t h ⟨k, t0, t1, t7, t8, hM, rfl, hk', hS⟩
 have hr := hM.at hr
 by_cases hlt : k < zs.length
 ·rw [cC_ p _ k hlt] at hS
  have hg := b1_ zs k hlt
  simp (disch := omega) only [t0, t1, t7, t8, hr, hlt, hg, hc, aG_, Nat.zero_add, Int.zero_add, go_sem, reduceEqDiff, reduceCtorEq, Int.reduceNeg, ↓reduceIte]
  refine hp _ hM _ (getElem_mem hlt) _ (fun H2 m2 => ?_)
  cases q : p zs[k]
  ·simp (disch := omega) only [t8, aQ_, go_sem, reduceEqDiff, Int.reduceNeg, ↓reduceIte]
   exact ⟨zs.length - (k + 1), by omega, hJ _ _ _ ⟨k + 1, by simp [upd, t0], by simp [upd, t1], by simp [upd, t7], by simp [upd], hM.trans m2, rfl, by omega, by rw [hS, q]; rfl⟩⟩
  ·simp (disch := omega) only [go_sem, reduceEqDiff, Int.reduceNeg, ↓reduceIte]
   rw [hS, q] at hk
   exact hk _ (hM.trans m2)
 ·simp (disch := omega) only [t7, t8, hlt, go_sem, Int.reduceNeg, ↓reduceIte]
  rw [hS, bB_ _ _ _ (by omega)] at hk
  exact hk _ hM
def c46 : LC :=
 .q [.o [.nl 4], .o [.m 8 0, .m 9 1, .c2 10 85 8 9, .m 5 10], .q [.o [.m 11 5, .s 12 (.bin .eql false (.tmp 11) (.const (.int .i64 (-1))))], .k 12 (.q [.o [.m 13 0, .m 4 13], .ret]) .skip], .q [.o [.m 14 5, .bk 15 .add
 false 14 1, .m 6 15], .block 0 (.loop (.q [.q [.o [.m 16 6, .m 17 0, .ll 18 17, .bb 19 .lss false 16 18], .k 19 .skip (.exit 0)], .block 1 (.q [.o [.m 22 0, .m 23 6, .ia 24 1 22 23, .ln 25 24, .m 7 25], .o [.m 26 1, .m
 27 7, .s 28 (.callv (.tmp 26) [.tmp 27]), .nt 29 28], .k 29 (.q [.o [.m 30 0, .m 31 5, .m 32 7, .ia 33 1 30 31, .st 1 33 32], .o [.m 34 5, .bk 35 .add false 34 1, .m 5 35]]) .skip]), .o [.m 20 6, .bk 21 .add false 20 1,
 .m 6 21]]))], .o [.m 36 0, .m 37 5, .s 38 (.sliceSl 1 (.tmp 36) (some (.tmp 37)) none), .z (.clear 2 1 (.int .i64 0) (.tmp 38))], .o [.m 39 0, .m 40 5, .s 41 (.sliceSl 1 (.tmp 39) none (some (.tmp 40))), .m 4 41], .ret]
def un_ : LF := ⟨2, 42, c46, [.tmp 4]⟩
theorem v2_ : av_ prog Tryz.f46 un_ := aq_
theorem fG_ {l : Nat} {H : List Row} {zs : List Int} (hr : H[l]? = some ⟨.ty 2, 1, ak_ zs⟩) (p : Int → Bool) (G : Nat) (caps : List AV) (hm : zs.length ≤ 1048576) (hc : bH_ prog G = true)
 (hp : ∀ H' : List Row, H.length ≤ H'.length → (∀ x, x < H.length → x ≠ l → H'[x]? = H[x]?) → ∀ z ∈ zs, QI G (.val (.int .i64 z) :: caps) H' (.val (.bool (p z)))) {K : AV → List Row → Prop}
 (hk : ∀ (H' : List Row) (ws : List Int), H.length ≤ H'.length → (∀ x, x < H.length → x ≠ l → H'[x]? = H[x]?) → H'[l]? = some ⟨.ty 2, 1, ak_ ws⟩ → ws.length = zs.length → ws.take (zs.filter fun z => !p z).length = (zs.filter fun z => !p z) → K (.sub l zs.length 0 (zs.filter fun z => !p z).length) H') :
 callSem prog 46 [.sub l zs.length 0 zs.length, .fn G [] caps] H K := by
 refine ba_ mixed Tryz.func46 v2_ (bP_ rfl ?_)
 have hll := (List.getElem?_eq_some_iff.1 hr).1
 simp (disch := omega) only [un_, c46, go_sem, reduceEqDiff, reduceCtorEq, Int.reduceNeg, ↓reduceIte]
 refine fZ_ hr p G caps hm hc (fun H' m => hp H' m.len (fun x q1 _ => m.kept x q1)) _ (fun H0 m0 => ?_)
 have l0 := m0.len
 rcases hW_ p zs 0 with ⟨h1, h2⟩ | ⟨i0, hi0, h1, h2, h3⟩
 ·rw [h1]
  simp (disch := omega) only [go_sem, reduceCtorEq, Int.reduceNeg, ↓reduceIte]
  have e : (zs.filter fun z => !p z) = zs := filter_eq_self.2 fun a ha => by rw [h2 a ha]; rfl
  rw [e] at hk
  exact hk H0 zs l0 (fun x q _ => m0.kept x q) (m0.at hr) rfl take_length
 have hneg : (((0 + i0 : Nat) : Int) = -1) = False := eq_false (by omega)
 rw [h1]
 simp (disch := omega) only [Nat.zero_add, aQ_, go_sem, reduceEqDiff, reduceCtorEq, Int.reduceNeg, ↓reduceIte]
 have hkept0 : (zs.take (i0 + 1)).filter (fun z => !p z) = zs.take i0 := by
  rw [take_succ_eq_append_getElem (by omega), filter_append]
  have e1 : (zs.take i0).filter (fun z => !p z) = zs.take i0 := filter_eq_self.2 fun a ha => by
   obtain ⟨j, hj, rfl⟩ := mem_iff_getElem.1 ha
   rw [length_take] at hj
   have := h3 j (by omega)
   rw [getElem_take, this]; rfl
  rw [e1]; simp [h2]
 refine ay_ (fun n t h => ∃ (j : Nat) (kept W : List Int), t 0 = .sub l zs.length 0 zs.length ∧ t 1 = .fn G [] caps ∧ t 5 = .val (.int .i64 kept.length) ∧ t 6 = .val (.int .i64 j) ∧ H.length ≤ h.length ∧ (∀ x, x < H.length → x ≠ l → h[x]? = H[x]?) ∧ h[l]? = some ⟨.ty 2, 1, ak_ W⟩ ∧
  kept = (zs.take j).filter (fun z => !p z) ∧ W.length = zs.length ∧ W.take kept.length = kept ∧ W.drop j = zs.drop j ∧ kept.length ≤ j ∧ n = zs.length - j ∧ j ≤ zs.length) (zs.length - (i0 + 1)) ⟨i0 + 1, zs.take i0, zs, rfl, rfl, by simp [upd]; omega, by simp [upd], l0, fun x q _ => m0.kept x q, m0.at hr, hkept0.symm, rfl, by rw [length_take, Nat.min_eq_left (by omega)], rfl, by rw [length_take]; omega, rfl, by omega⟩ ?_
 rintro J hJ n t h ⟨j, kept, W, t0, t1, t5, t6, hl, hkeep, hrow, hkp, hW, hW1, hW2, hkj, rfl, hj⟩
 have gl : l < h.length := by omega
 by_cases hlt : j < zs.length
 ·have hlt3 : j < W.length := by omega
  have hlk : kept.length < W.length := by omega
  have hlkm : kept.length < zs.length := by omega
  have hWj : W[j] = zs[j] := by
   have := congrArg (fun q => q[0]?) hW2
   simp only [getElem?_drop, Nat.add_zero] at this
   rw [getElem?_eq_getElem hlt3, getElem?_eq_getElem hlt] at this
   exact Option.some.inj this
  have hg := b1_ W j hlt3
  rw [hWj] at hg
  have hgk := b1_ W kept.length hlk
  have hW3 : W.drop (j + 1) = zs.drop (j + 1) := by rw [← drop_drop, hW2, drop_drop]
  simp (disch := (first | omega | (simp only [ls_, la_, lc_, ln_]; first | done | omega))) only [go_sem, reduceEqDiff, reduceCtorEq, ↓reduceIte, t0, t1, t6, hrow, hlt, hW, hg, hc, aG_, Nat.sub_zero, Nat.zero_add, Int.zero_add]
  refine hp _ (by omega) hkeep _ (getElem_mem hlt) _ (fun H2 m2 => ?_)
  have l2 := m2.len
  have rw2 := m2.at hrow
  have e1 : (zs.take (j + 1)).filter (fun z => !p z) = if !p zs[j] then kept ++ [zs[j]] else kept := by rw [iQ_ _ _ _ hlt, ← hkp]
  cases q : p zs[j]
  ·rw [q] at e1
   simp (disch := (first | omega | (simp only [ls_, la_, lc_, ln_]; first | done | omega))) only [go_sem, reduceEqDiff, reduceCtorEq, ↓reduceIte, t0, t5, t6, rw2, hlkm, hW, hgk, jt_, aG_, Nat.zero_add, Int.zero_add, aQ_]
   refine ⟨zs.length - (j + 1), by omega, hJ _ _ _ ⟨j + 1, kept ++ [zs[j]], W.set kept.length zs[j], by simp [upd, t0], by simp [upd, t1], by simp [upd], by simp [upd], by (try simp only [ls_]); omega, fun x q1 q2 => ?_, ?_, e1.symm, by simp [hW], ?_, ?_, by simp; omega, rfl, by omega⟩⟩
   ·rw [c9_ (by omega), m2.kept x (by omega)]; exact hkeep x q1 q2
   ·rw [dP_ (by omega)]
   ·rw [la_, length_singleton, take_succ_eq_append_getElem (by simpa using hlk), getElem_set_self, take_set_of_le (Nat.le_refl _), hW1]
   ·rw [drop_set_of_lt (by omega), hW3]
  ·rw [q] at e1
   simp (disch := (first | omega | (simp only [ls_, la_, lc_, ln_]; first | done | omega))) only [go_sem, reduceEqDiff, ↓reduceIte, t6, aQ_]
   exact ⟨zs.length - (j + 1), by omega, hJ _ _ _ ⟨j + 1, kept, W, by simp [upd, t0], by simp [upd, t1], by simp [upd, t5], by simp [upd], by omega, fun x q1 q2 => by rw [m2.kept x (by omega)]; exact hkeep x q1 q2, rw2, e1.symm, hW, hW1, hW3, by omega, rfl, by omega⟩⟩
 have e : j = zs.length := by omega
 subst e
 rw [take_length] at hkp
 have hz : (ak_ W).take kept.length ++ (List.replicate (zs.length - kept.length) [AV.val (Value.int .i64 0)] ++ (ak_ W).drop zs.length) = ak_ (kept ++ List.replicate (zs.length - kept.length) 0) := by
  rw [drop_eq_nil_of_le (by rw [aG_]; omega), append_nil, d8_, hW1, ← eJ_]
  congr 1
  simp [ak_]
 rw [← hkp] at hk
 have hkt := hkj
 have hz2 : kept.length + (zs.length - kept.length) = zs.length := by omega
 simp (disch := (first | omega | (simp only [ls_, la_, lc_, ln_]; first | done | omega))) only [dP_, go_sem, reduceEqDiff, reduceCtorEq, ↓reduceIte, t0, t5, t6, hrow, hlt, hW, hkt, hz, hz2, aG_, la_, length_replicate, Nat.sub_zero]
 repeat (refine And.intro (by first | omega | (exact strs_cellv _) | assumption | (simp; done)) ?_)
 refine hk _ (kept ++ List.replicate (zs.length - kept.length) 0) (by simp; omega) (fun x q1 q2 => by rw [c9_ (by omega)]; exact hkeep x q1 q2) (dP_ gl) (by simp; omega) (by simp)
theorem qR_ {H : List Row} {l : Nat} {E : Tag} {sz n : Nat} {c r : AV} (hl : H[l]? = some ⟨E, sz, [[c]]⟩) (hc: AW.resolve H (n + 1) c = some r): AW.resolve H (n + 2) (.ptr l 1 0 0) = some (.iptr [r]) := by
 have e: AW.resolve H (n + 2) (.ptr l 1 0 0) = match H[l]? with
  | some r => if r.es.length = 1 then (match r.es[0]? with | some e => if 0 < e.length then ((e.drop 0).mapM (AW.resolve H (n + 1))).map .iptr else none | none => none) else none
  | none => none := rfl
 rw [e, hl]
 simp [hc]
def il_ (h : List Row) (a : AV) (S : List Int) (l : Nat) (zs : List Int) : Prop := h[l]? = some ⟨.ty 2, 1, ak_ zs⟩ ∧ zs.take S.length = S ∧ (a = .sub l zs.length 0 S.length ∨ (a = .own l S.length ∧ zs = S))
theorem il_.res {h : List Row} {a : AV} {S : List Int} {l : Nat} {zs : List Int} (s : il_ h a S l zs) (n : Nat) : AW.resolve h (n + 2) a = some (.list 0 1 (ak_ S)) := by
 obtain ⟨h1, h2, rfl | ⟨rfl, rfl⟩⟩ := s
 ·rw [nk_ h1 (aG_ _) (c0_ _), drop_zero, d8_, h2]
 ·exact g2_ h1 (aG_ _) (c0_ _)
theorem il_.fresh {h : List Row} {a : AV} {S : List Int} {l : Nat} {zs : List Int} (s : il_ h a S l zs) {lo : Nat} (hl : lo ≤ l) : aP_ lo h.length h a (.list 0 1 (ak_ S)) := by
 have hll := (List.getElem?_eq_some_iff.1 s.1).1
 obtain ⟨h1, h2, rfl | ⟨rfl, rfl⟩⟩ := s
 ·have hcut : ((ak_ zs).take S.length).drop 0 = ak_ S := by rw [drop_zero, d8_, h2]
  exact ⟨2, [l], ⟨_, _, [], h1, aG_ _, dM_ _, congrArg (AV.list 0 1) hcut.symm, rfl⟩, by simp, by simp; omega⟩
 ·exact (bO_.ofInts h1 hl).b
theorem il_.keep {h h' : List Row} {a : AV} {S : List Int} {l : Nat} {zs : List Int} (s : il_ h a S l zs) (hk : h'[l]? = h[l]?) : il_ h' a S l zs := ⟨hk.trans s.1, s.2⟩
def c50 : LC :=
 .q [.o [.f 3], .o [.ln 4 1, .m 5 0, .c2 6 51 4 5, .m 3 6], .ret]
def uz_ : LF := ⟨2, 7, c50, [.tmp 3]⟩
theorem vf_ : av_ Tryz.prog Tryz.f50 uz_ := aq_
def c48 : LC :=
 .q [.o [.f 4], .o [.m 5 0, .c2 6 38 1 5, .s 7 (.mkFunc 50 [] [.tmp 2]), .c2 8 49 6 7, .nt 9 8, .m 4 9], .ret]
def tI_ : LF := ⟨3, 10, c48, [.tmp 4]⟩
theorem vS_ : av_ Tryz.prog Tryz.f48 tI_ := aq_
theorem f1_ (S : List Int) (v : Int) (hx : S.length ≤ 1048576) (h : List Row) : aa_ Tryz.prog 50 [.val (.int .i64 v), .iptr [.list 0 1 (S.map bA_)]] h (.val (.bool (eo_ S v))) := by
 refine am_ mixed Tryz.func50 vf_ rfl rfl ?_ h
 simp (disch := omega) only [uz_, c50, go_sem, reduceEqDiff, reduceCtorEq, ↓reduceIte]
 refine aa_.call (f5_ S v hx _) ?_
 simp (disch := omega) only [go_sem, ↓reduceIte]
 exact ⟨1, rfl⟩
theorem hD_ (x : ac_) (hx : ac_.sz x ≤ 1048576) {H : List Row} {B Sb : Nat} {E : Tag} {a : AV} {S : List Int} (hb : H[B]? = some (gG_ x)) (hs : H[Sb]? = some ⟨E, 1, [[a]]⟩) (ha : ∀ h', a5_ H h' → AW.resolve h' 2 a = some (.list 0 1 (ak_ S))) (hSl : S.length ≤ 1048576) (z : Int) :
 QI 48 [.val (.int .i64 z), .ptr B 1 0 0, .ptr Sb 1 0 0] H (.val (.bool (!f0_ x S z))) := by
 intro K hk
 refine ba_ mixed Tryz.func48 vS_ (bP_ rfl ?_)
 have hlen1 := ar_ (ac_.sz_Held hx)
 have hlen2 := ar_ (ac_.sz_Asks hx)
 have hwm : (bk_ x z).length ≤ 1048576 := by
  have h1 := iW_ x z
  have h2 : as_ ab_.sz x.Held + as_ af_.sz x.Asks ≤ 1048576 := hx
  have h3 := bl_ (f := ab_.sz) (xs := x.Held)
  have h4 := bl_ (f := af_.sz) (xs := x.Asks)
  omega
 simp (disch := omega) only [tI_, c48, go_sem, reduceEqDiff, reduceCtorEq, ↓reduceIte]
 refine io_ (n := 3) (fH_ x z hx) (cS_ (fU_ hb rfl (by show 0 < 2; decide)) (cr_ rfl)) (fun av hn hf hq => ?_)
 have m1 : a5_ H (H ++ hn) := a5_.app _ _
 have hs' := m1.at hs
 simp (disch := omega) only [go_sem, reduceEqDiff, ↓reduceIte]
 have hcall : aa_ Tryz.prog 49 [av, .fn 50 [] [.ptr Sb 1 0 0]] (H ++ hn) (.val (.bool (f0_ x S z))) :=
  aa_.anyR rfl (fun h => eX_ (bk_ x z) (eo_ S) 50 [.iptr [.list 0 1 (S.map bA_)]] rfl hwm (by kernel_rfl) (fun v _ h => f1_ S v hSl h) h)
   (.cons hf.b.arg.any (.cons (.res (n := 4) (jT_ rfl (cr_ (qR_ hs' (by have := ha _ m1; exact this))))) .nil))
 refine aa_.call hcall ?_
 simp (disch := omega) only [go_sem, ↓reduceIte]
 exact hk _ m1
def c18 : LC :=
 .q [.o [.bx 1 32 0, .nl 2], .q [.o [.ld 7 2 1, .c1 8 36 7, .nt 9 8], .k 9 (.q [.o [.nl 2], .ret]) .skip], .o [.s 10 (.buildSlice 2 1 (.int .i64 0) 0 []), .s 3 (.alloc 27 (.slice none 0 0)), .st 1 3 10], .q [.o [.fa 11 1
 1, .ln 12 11, .ll 13 12, .ki 14 0], .block 0 (.loop (.q [.o [.bb 15 .lss false 14 13], .k 15 .skip (.exit 0), .block 1 (.q [.o [.ia 16 4 12 14, .ld 17 4 16, .s 5 (.alloc 64 (.agg #[.int .i64 0, .int .i64 0, .string
 ⟨#[]⟩, .slice none 0 0])), .st 4 5 17], .o [.ln 18 3, .fa 19 0 5, .ln 20 19, .s 21 (.buildSlice 2 1 (.int .i64 0) 1 [(0, .tmp 20)]), .ap 22 2 1 8 18 21, .st 1 3 22]]), .o [.bk 23 .add false 14 1, .m 14 23]]))], .o [.ln
 24 3, .c1 25 45 24], .block 2 (.loop (.block 3 (.q [.o [.ln 26 3, .c1 27 47 26, .s 28 (.mkFunc 48 [] [.tmp 1, .tmp 3]), .c2 29 46 27 28, .m 6 29], .q [.o [.m 30 6, .ll 31 30, .ln 32 3, .ll 33 32, .bb 34 .eql false 31
 33], .k 34 (.q [.o [.ln 35 3, .m 2 35], .ret]) .skip], .o [.m 36 6, .st 1 3 36]])))]
def tE_ : LF := ⟨1, 37, c18, [.tmp 2]⟩
theorem vQ_ : av_ Tryz.prog Tryz.f18 tE_ := aq_
theorem db_ (x : ac_) (hx : ac_.sz x ≤ 1048576) : bb_ Tryz.prog 18 [.agg (ac_.cells x)] (.list 0 1 (ak_ (bv_ x))) (fun a => True) := by
 refine gx_ mixed Tryz.func18 vQ_ rfl (fun h0 => ?_)
 have hlenA := ar_ (ac_.sz_Asks hx)
 simp (disch := (first | omega | (simp only [ls_, la_, lc_, ln_]; first | done | omega))) only [dR_, go_sem, reduceEqDiff, Nat.reduceAdd, ↓reduceIte, tE_, c18, ac_.cells]
 refine aa_.call (jM_ x hx _) ?_
 cases q : cE_ x
 ·simp (disch := (first | omega | (simp only [ls_, la_, lc_, ln_]; first | done | omega))) only [go_sem, ↓reduceIte]
  rw [bv_, q]
  exact ⟨a5_.app _ _, aP_.mknil _ _ _ 1⟩
 simp (disch := (first | omega | (simp only [ls_, la_, lc_, ln_]; first | done | omega))) only [dR_, kJ_, go_sem, reduceEqDiff, Nat.reduceAdd, ↓reduceIte]
 refine ay_ (fun m t h => ∃ (k : Nat) (out : List Int), t 1 = .ptr h0.length 1 0 0 ∧ t 3 = .ptr (h0.length + 2) 1 0 0 ∧ t 12 = .list 0 4 (x.Asks.map af_.cells) ∧ t 13 = .val (.int .i64 x.Asks.length) ∧ t 14 = .val (.int .i64 k) ∧ a5_ h0 h ∧ h[h0.length]? = some (gG_ x) ∧ h[h0.length + 1]? = some ⟨.ty 2, 1, ak_ out⟩ ∧ h[h0.length + 2]? = some ⟨.ty 27, 1, [[.own (h0.length + 1) out.length]]⟩ ∧ m = x.Asks.length - k ∧ k ≤ x.Asks.length ∧ out.length = k ∧ out = (dd_ x).take k) x.Asks.length ⟨0, [], rfl, rfl, rfl, rfl, rfl, ?_, ?_, ?_, ?_, rfl, Nat.zero_le _, rfl, rfl⟩ ?_
 ·exact a5_.app _ _
 ·exact dR_ rfl
 ·exact gq_ rfl
 ·exact kJ_ rfl
 rintro J hJ m t h ⟨k, out, t1, t3, t12, t13, t14, mo, o0, o1, o2, rfl, hk, ho, hS⟩
 have hl2 := (List.getElem?_eq_some_iff.1 o2).1
 by_cases hlt : k < x.Asks.length
 ·have htk : (dd_ x).take (k + 1) = (dd_ x).take k ++ [x.Asks[k].Job] := by
   rw [take_succ_eq_append_getElem (by simpa [dd_] using hlt)]; simp [dd_]
  simp (disch := (first | omega | (simp only [ls_, la_, lc_, ln_]; first | done | omega))) only [c9_, f4_, dR_, gq_, go_sem, reduceEqDiff, Nat.reduceAdd, reduceLeDiff, ↓reduceIte, t3, t12, t13, t14, o1, o2, hlt, dr_, aG_, h3_, eJ_, aQ_]
  repeat (refine And.intro (by first | omega | exact fM_ _ | exact i7_ _ | (simp; done)) ?_)
  refine ⟨x.Asks.length - (k + 1), by omega, hJ _ _ _ ⟨k + 1, out ++ [x.Asks[k].Job], by simp [upd, t1], by simp [upd, t3], by simp [upd, t12], by simp [upd, t13], by simp [upd], ?_, ?_, ?_, ?_, rfl, by omega, by simp [ho], by rw [htk, hS]⟩⟩
  ·exact ((mo.add _).set (by omega)).set (by omega)
  ·(repeat (first | rw [c9_ (by omega)] | rw [f4_ (by first | omega | (simp only [ls_, la_, lc_, ln_]; omega))])); exact o0
  ·rw [c9_ (by omega), dP_ (by simp; omega)]
  ·rw [dP_ (by simp; omega)]; simp
 have e : k = x.Asks.length := by omega
 subst e
 have hout : out = dd_ x := by rw [hS, take_of_length_le (by simp [dd_])]
 simp (disch := (first | omega | (simp only [ls_, la_, lc_, ln_]; first | done | omega))) only [go_sem, reduceEqDiff, ↓reduceIte, t3, t13, t14, o2, hlt]
 refine dm_ o1 (by omega) ?_
 have hR : bv_ x = fl_ x (bJ_ out) := by rw [bv_, if_pos q, hout]
 have hsl : (bJ_ out).length = out.length := dC_ _
 simp (disch := (first | omega | (simp only [ls_, la_, lc_, ln_]; first | done | omega))) only [go_sem]
 refine ay_ (fun m t h => ∃ (a : AV) (S : List Int) (l : Nat) (zs : List Int), t 1 = .ptr h0.length 1 0 0 ∧ t 3 = .ptr (h0.length + 2) 1 0 0 ∧ a5_ h0 h ∧ h[h0.length]? = some (gG_ x) ∧ h[h0.length + 2]? = some ⟨.ty 27, 1, [[a]]⟩ ∧ il_ h a S l zs ∧ h0.length < l ∧ l ≠ h0.length + 2 ∧ m = S.length ∧ S.length ≤ 1048576 ∧ bv_ x = fl_ x S) out.length ⟨.own (h0.length + 1) out.length, bJ_ out, h0.length + 1, bJ_ out, by simp [upd, t1], by simp [upd, t3], ?_, ?_, ?_, ⟨?_, ?_, ?_⟩, by omega, by omega, hsl.symm, by omega, hR⟩ ?_
 ·exact mo.set (by omega)
 ·rw [c9_ (by omega)]; exact o0
 ·rw [c9_ (by omega)]; exact o2
 ·exact dP_ (by omega)
 ·exact take_length
 ·exact .inr ⟨by rw [hsl], rfl⟩
 clear hJ t1 t3 t12 t13 t14 mo o0 o1 o2 hS hlt hl2 hR
 rintro J hJ m t h ⟨a, S, l, zs, t1, t3, mo, o0, o2, hI, hl, hl3, rfl, hSl, hS⟩
 have hl2 := (List.getElem?_eq_some_iff.1 o2).1
 have hll := (List.getElem?_eq_some_iff.1 hI.1).1
 have hac : a.cell = true := by rcases hI.2.2 with rfl | ⟨rfl, _⟩ <;> rfl
 have hac' := hac
 simp only [AV.cell, Value.oneCell'] at hac'
 simp (disch := (first | omega | (simp only [ls_, la_, lc_, ln_]; first | done | omega))) only [go_sem, ↓reduceIte, t3, o2]
 refine gY_ hSl (hI.res 0) (fun H1 lc m1 hlc oc => ?_)
 have p0 := m1.at o0
 have p2 := m1.at o2
 have pI := hI.keep (m1.kept l hll)
 have hcl := (List.getElem?_eq_some_iff.1 oc).1
 have hnn : (S.filter fun z => !(!f0_ x S z)) = co_ x S := by
  refine filter_congr fun z _ => ?_
  rw [Bool.not_not]; rfl
 simp (disch := (first | omega | (simp only [ls_, la_, lc_, ln_]; first | done | omega))) only [go_sem, reduceEqDiff, ↓reduceIte, t1, t3]
 refine callSem.own_sub (fG_ oc (fun z => !f0_ x S z) 48 _ hSl (by kernel_rfl) (fun H' g1 g2 z hz => ?_) (fun H' ws g1 g2 g3 g4 g5 => ?_))
 ·exact hD_ x hx ((g2 _ (by omega) (by omega)).trans p0) ((g2 _ (by omega) (by omega)).trans p2) (fun h' m' => (pI.keep (by rw [m'.kept l (by omega)]; exact g2 l (by omega) (by omega))).res 0) hSl z
 rw [hnn] at g5
 rw [hnn]
 have q0 := (g2 _ (by omega) (by omega)).trans p0
 have q2 := (g2 _ (by omega) (by omega)).trans p2
 have qI := pI.keep (g2 l (by omega) (by omega))
 have hnl := gd_ x S
 have ml0 := mo.len
 have ml1 := m1.len
 have mo' : a5_ h0 H' := ⟨by omega, fun y hy => (g2 y (by omega) (by omega)).trans ((mo.trans m1).kept y hy)⟩
 have step : ∀ (t' : Nat → AV), t' 1 = .ptr h0.length 1 0 0 → t' 3 = .ptr (h0.length + 2) 1 0 0 → (co_ x S).length ≠ S.length → ∃ m, m < S.length ∧ J m t' (H'.set (h0.length + 2) ⟨.ty 27, 1, [[.sub lc S.length 0 (co_ x S).length]]⟩) := by
  intro t' e1 e3 hne
  refine ⟨(co_ x S).length, by omega, hJ _ _ _ ⟨_, co_ x S, lc, ws, e1, e3, ?_, ?_, dP_ (by omega), ⟨?_, g5, .inl (by rw [g4])⟩, by omega, by omega, rfl, by omega, by rw [hS, lL_ hne]⟩⟩
  ·exact mo'.set (by omega)
  ·rw [c9_ (by omega)]; exact q0
  ·rw [c9_ (by omega)]; exact g3
 have stop : (co_ x S).length = S.length → Res h0 H' a (.list 0 1 (ak_ (bv_ x))) := by
  intro he
  rw [hS, ju_ he]
  exact ⟨mo', qI.fresh (by omega)⟩
 have qr := qI.1
 obtain ⟨i1, i2, rfl | ⟨rfl, rfl⟩⟩ := hI
 ·by_cases he : (co_ x S).length = S.length
  ·simp (disch := (first | omega | (simp only [ls_, la_, lc_, ln_]; first | done | omega))) only [go_sem, reduceEqDiff, ↓reduceIte, t3, q2, qr, g3, g4, he, aG_, Nat.sub_zero]
   exact stop he
  ·have he' : (((co_ x S).length : Int) = (S.length : Int)) = False := eq_false (by omega)
   simp (disch := (first | omega | (simp only [ls_, la_, lc_, ln_]; first | done | omega))) only [go_sem, reduceEqDiff, ↓reduceIte, t3, q2, qr, g3, g4, he', aG_, Nat.sub_zero]
   repeat (refine And.intro (by first | omega | (exact strs_cellv _) | assumption | (simp; done)) ?_)
   exact step _ (by simp [upd, t1]) (by simp [upd, t3]) he
 ·by_cases he : (co_ x zs).length = zs.length
  ·simp (disch := (first | omega | (simp only [ls_, la_, lc_, ln_]; first | done | omega))) only [go_sem, reduceEqDiff, ↓reduceIte, t3, q2, qr, g3, g4, he, aG_, Nat.sub_zero]
   exact stop he
  ·have he' : (((co_ x zs).length : Int) = (zs.length : Int)) = False := eq_false (by omega)
   simp (disch := (first | omega | (simp only [ls_, la_, lc_, ln_]; first | done | omega))) only [go_sem, reduceEqDiff, ↓reduceIte, t3, q2, qr, g3, g4, he', aG_, Nat.sub_zero]
   repeat (refine And.intro (by first | omega | (exact strs_cellv _) | assumption | (simp; done)) ?_)
   exact step _ (by simp [upd, t1]) (by simp [upd, t3]) he
end Go.Proofs.YtodgohgdnmifaaaGreatDoor
